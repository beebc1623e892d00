-- Written by a program for this claim.
import Derived.Test.YtkedcokhcgklpaaMFnLinesx0
import Derived.Test.YtkedcokhcgklpaaMFnLinesx2
import Derived.Test.YtkedcokhcgklpaaMFnLinesx4
import Derived.Test.YtkedcokhcgklpaaMFnLinesx9
import Derived.Test.YtkedcokhcgklpaaMFnLinesx10
namespace Go.Proofs.Ytkedcokhcgklpaa.MFnLines
open Go.RowKit Go.Proofs.YtkedcokhcgklpaaW.PrintWords Go.Proofs.YtkedcokhcgklpaaW.PrintLast Go.Proofs.YtkedcokhcgklpaaW.PrintMore
attribute [local go_sem] max2_int min2_int max_two min_two max_three min_three max_four min_four   -- for this text's walks alone
set_option linter.unusedVariables false
set_option linter.unusedSimpArgs false

theorem s11_0 {p : Prop} (h : p := by repeat (first | (with_reducible first | exact HB.out | apply below_alloc | apply pw_below_drewN | apply below_drew1 | refine below_set ?_ (IsS95.ge HI333.out)) | exact HB.out)) : p := h
theorem s11_1 {p : Prop} (h : p := by repeat (first | (with_reducible first | exact HB.out | apply below_alloc | apply pw_below_drewN | apply below_drew1 | refine below_set ?_ (IsS95.ge HI0.out)) | exact HB.out)) : p := h
theorem s11_2 {p : Prop} (h : p := by repeat (first | (with_reducible first | exact HI0.out | apply IsS95.alloc | apply IsS95.drewN | apply IsS95.drew | apply IsS95.set_1 | apply IsS95.set_2) | exact HI0.out)) : p := h
theorem s11_3 {p : Prop} (h : p := by repeat (first | (with_reducible first | exact HK.out | apply KeepBut.set_ | apply keep_drewN | apply keep_drew | apply keep_alloc) | exact HK.out)) : p := h
theorem s11_4 {p : Prop} (h : p := by repeat (first | (with_reducible first | exact HBW.out | apply below_alloc | apply pw_below_drewN | apply below_drew1) | exact HBW.out)) : p := h
theorem s11_5 {p : Prop} (h : p := by repeat (first | (with_reducible first | exact HB.out | apply below_alloc | apply pw_below_drewN | apply below_drew1) | exact HB.out)) : p := h
theorem y11_0 {p : Prop} (h : p := by repeat (first | exact (Kd.C_below HR0.out HB.out) | (with_reducible refine Kd.C_alloc ?_ _) | (with_reducible refine Kd.C_drewN ?_ _) | (with_reducible refine Kd.C_drew ?_))) : p := h
theorem y11_1 {p : Prop} (h : p := by repeat (first | exact (Kd.R_reads' HO_3.out).2.2 | (with_reducible refine Kd.C_alloc ?_ _) | (with_reducible refine Kd.C_drewN ?_ _) | (with_reducible refine Kd.C_drew ?_))) : p := h
theorem u11_0 {p : Prop} (h : p := by repeat (first | (with_reducible first | exact HK.out | apply KeepBut.set_ | apply keep_drewN | apply keep_drew | apply keep_alloc) | exact HK.out)) : p := h
theorem u11_1 {p : Prop} (h : p := by (try simp only [List.map_toArray, List.map_cons, List.map_nil]); first | done | rfl | (simp only [List.length_drop, List.length_take]; rfl)) : p := h
theorem u11_2 {p : Prop} (h : p := by (with_reducible repeat (first | apply Kd.R_alloc | apply Kd.R_drewN | apply Kd.R_drew)); exact HO_3.out) : p := h
theorem u11_3 {p : Prop} (h : p := by repeat (first | (with_reducible first | exact HB.out | apply below_alloc | apply pw_below_drewN | apply below_drew1 | refine below_set ?_ (IsS95.ge HI0.out)) | exact HB.out)) : p := h
theorem u11_4 {p : Prop} (h : p := by repeat (first | (with_reducible first | exact HI0.out | apply IsS95.alloc | apply IsS95.drewN | apply IsS95.drew | apply IsS95.set_1 | apply IsS95.set_2) | exact HI0.out)) : p := h
theorem u11_5 {p : Prop} (h : p := by (with_reducible repeat (first | apply Kd.R_alloc | apply Kd.R_drewN | apply Kd.R_drew)); exact HO_7.out) : p := h
theorem u11_6 {p : Prop} (h : p := by (with_reducible repeat (first | apply Kd.R_alloc | apply Kd.R_drewN | apply Kd.R_drew)); exact HO_4.out) : p := h
theorem u11_7 {p : Prop} (h : p := by repeat (first | (with_reducible first | exact HB.out | apply below_alloc | apply pw_below_drewN | apply below_drew1) | exact HB.out)) : p := h
theorem u11_8 {p : Prop} (h : p := by first | rfl | (simp; done) | (simp [*]; done)) : p := h
theorem u11_9 {p : Prop} (h : p := by (with_reducible repeat (first | apply Kd.R_alloc | apply Kd.R_drewN | apply Kd.R_drew)); exact HO_16.out) : p := h
theorem u11_10 {p : Prop} (h : p := by repeat (first | (with_reducible first | exact HBW.out | apply below_alloc | apply pw_below_drewN | apply below_drew1) | exact HBW.out)) : p := h
theorem u11_11 {p : Prop} (h : p := by (with_reducible repeat (first | apply Kd.R_alloc | apply Kd.R_drewN | apply Kd.R_drew)); exact HO_36.out) : p := h
theorem u11_12 {p : Prop} (h : p := by (with_reducible repeat (first | apply Kd.R_alloc | apply Kd.R_drewN | apply Kd.R_drew)); exact HO312.out) : p := h
theorem u11_13 {p : Prop} (h : p := by decide) : p := h
theorem obk {A : Option Addr} {n c m d : Nat} : (Value.slice A n c).ownBlock = (Value.slice A m d).ownBlock := by cases A <;> rfl
/-! ### spec_l6Draw: function 66 -/
mutual
def spec_l6Draw.l0 : Nat → List (S30) → List ByteArray → List ByteArray → Int → Int → List Int → Int → Int → Option ((List (S30)) × Int × Int)
 | 0, _, _, _, _, _, _, _, _ => none
 | k + 1, x3, x4, x16, x17, x18, x1000, x1001, x1002 => if x18 < x17 then (if 0 ≤ x18 then (if x18 < (x16.length : Int) then ((spec_l1Below.f x1000 x1001 x1002 80).bind fun bt273 => ((spec_AddDevice.f k x3 (rdOf ByteArray.empty x16 x18) 1 (⟨#[]⟩ : ByteArray) 0 0 0 0 bt273.1).bind fun bt276 => (spec_l6Draw.l0 k bt276.1 x4 x16 x17 (wrap64 (x18 + 1)) x1000 bt273.2.1 bt273.2.2))) else (none)) else (none)) else ((some (([(⟨#[97]⟩ : ByteArray), (⟨#[98]⟩ : ByteArray), (⟨#[99]⟩ : ByteArray), (⟨#[114]⟩ : ByteArray)] : List ByteArray) : List ByteArray)).bind fun y280 => ((spec_l1Below.f x1000 x1001 x1002 5).bind fun bt283 => (if 0 ≤ bt283.1 then (if bt283.1 ≤ (y280.length : Int) then ((some (y280.take (bt283.1 : Int).toNat : List ByteArray)).bind fun y286 => (spec_l6Draw.l1 k x3 x4 y286 y286 (y286.length : Int) 0 x1000 bt283.2.1 bt283.2.2)) else (none)) else (none))))
def spec_l6Draw.l1 : Nat → List (S30) → List ByteArray → List ByteArray → List ByteArray → Int → Int → List Int → Int → Int → Option ((List (S30)) × Int × Int)
 | 0, _, _, _, _, _, _, _, _, _ => none
 | k + 1, x3, x4, x7, x36, x37, x38, x1000, x1001, x1002 => if x38 < x37 then (if 0 ≤ x38 then (if x38 < (x36.length : Int) then ((spec_l1Str.f x1000 x1001 x1002 x4).bind fun bt290 => ((spec_l6Nozzle.f x1000 bt290.2.1 bt290.2.2 (rdOf ByteArray.empty x36 x38) bt290.1).bind fun bt293 => ((spec_AddDevice.f k x3 bt293.1 bt293.2.1 bt293.2.2.1 bt293.2.2.2.1 bt293.2.2.2.2.1 bt293.2.2.2.2.2.1 bt293.2.2.2.2.2.2.1 bt293.2.2.2.2.2.2.2.1).bind fun bt303 => (spec_l6Draw.l1 k bt303.1 x4 x7 x36 x37 (wrap64 (x38 + 1)) x1000 bt293.2.2.2.2.2.2.2.2.1 bt293.2.2.2.2.2.2.2.2.2)))) else (none)) else (none)) else (if (x7.length : Int) > 0 then ((spec_l1Once.f x1000 x1001 x1002 2).bind fun bt307 => (spec_l6Draw.j2 k x3 x7 bt307.1 x1000 bt307.2.1 bt307.2.2)) else (spec_l6Draw.j2 k x3 x7 false x1000 x1001 x1002))
def spec_l6Draw.j2 : Nat → List (S30) → List ByteArray → Bool → List Int → Int → Int → Option ((List (S30)) × Int × Int)
 | 0, _, _, _, _, _, _ => none
 | k + 1, x3, x7, x60, x1000, x1001, x1002 => if x60 = true then ((spec_l1Str.f x1000 x1001 x1002 (([(⟨#[108, 97, 109, 112]⟩ : ByteArray), (⟨#[122]⟩ : ByteArray)] : List ByteArray))).bind fun bt313 => ((spec_l1Str.f x1000 bt313.2.1 bt313.2.2 x7).bind fun bt316 => ((spec_l2Draw.f x1000 bt316.2.1 bt316.2.2).bind fun bt319 => ((spec_AddDevice.f k x3 bt313.1 3 bt316.1 bt319.1 bt319.2.1 0 0 0).bind fun bt323 => (some (bt323.1, bt319.2.2.1, bt319.2.2.2)))))) else (some (x3, x1001, x1002))
end
def spec_l6Draw.f (k : Nat) (s0_0 : List Int) (s0_1 : Int) (s0_2 : Int) : Option ((List (S30)) × Int × Int) := (some (([(⟨#[112]⟩ : ByteArray), (⟨#[113]⟩ : ByteArray)] : List ByteArray) : List ByteArray)).bind fun y263 => ((spec_l1Below.f s0_0 s0_1 s0_2 2).bind fun bt266 => (if 0 ≤ (wrap64 (1 + bt266.1)) then (if (wrap64 (1 + bt266.1)) ≤ (y263.length : Int) then ((some (y263.take ((wrap64 (1 + bt266.1)) : Int).toNat : List ByteArray)).bind fun y269 => (spec_l6Draw.l0 k (([] : List (S30))) y269 y269 (y269.length : Int) 0 s0_0 bt266.2.1 bt266.2.2)) else (none)) else (none)))
theorem spec_l6Draw.mono_l : ∀ k, (∀ y0 y1 y2 y3 y4 y5 y6 y7, LeO (spec_l6Draw.l0 k y0 y1 y2 y3 y4 y5 y6 y7) (spec_l6Draw.l0 (k + 1) y0 y1 y2 y3 y4 y5 y6 y7)) ∧ (∀ y0 y1 y2 y3 y4 y5 y6 y7 y8, LeO (spec_l6Draw.l1 k y0 y1 y2 y3 y4 y5 y6 y7 y8) (spec_l6Draw.l1 (k + 1) y0 y1 y2 y3 y4 y5 y6 y7 y8)) ∧ (∀ y0 y1 y2 y3 y4 y5, LeO (spec_l6Draw.j2 k y0 y1 y2 y3 y4 y5) (spec_l6Draw.j2 (k + 1) y0 y1 y2 y3 y4 y5))
 | 0 => ⟨fun _ _ _ _ _ _ _ _ r h => by simp [spec_l6Draw.l0] at h, fun _ _ _ _ _ _ _ _ _ r h => by simp [spec_l6Draw.l1] at h, fun _ _ _ _ _ _ r h => by simp [spec_l6Draw.j2] at h⟩
 | k + 1 => by
  obtain ⟨ih0, ih1, ih2⟩ := spec_l6Draw.mono_l k
  refine ⟨?_, ?_, ?_⟩
  ·intro y0 y1 y2 y3 y4 y5 y6 y7
   unfold spec_l6Draw.l0
   repeat' first
   | (with_reducible exact ih0 _ _ _ _ _ _ _ _)
   | (with_reducible exact ih1 _ _ _ _ _ _ _ _ _)
   | (with_reducible exact ih2 _ _ _ _ _ _)
   | (with_reducible exact spec_AddDevice.mono _ _ _ _ _ _ _ _ _ _)
   | (with_reducible exact LeO.refl _)
   | (with_reducible exact LeO.none _)
   | (with_reducible refine LeO.ite ?_ ?_)
   | (with_reducible refine LeO.bind ?_ (fun _ => ?_))
  ·intro y0 y1 y2 y3 y4 y5 y6 y7 y8
   unfold spec_l6Draw.l1
   repeat' first
   | (with_reducible exact ih0 _ _ _ _ _ _ _ _)
   | (with_reducible exact ih1 _ _ _ _ _ _ _ _ _)
   | (with_reducible exact ih2 _ _ _ _ _ _)
   | (with_reducible exact spec_AddDevice.mono _ _ _ _ _ _ _ _ _ _)
   | (with_reducible exact LeO.refl _)
   | (with_reducible exact LeO.none _)
   | (with_reducible refine LeO.ite ?_ ?_)
   | (with_reducible refine LeO.bind ?_ (fun _ => ?_))
  ·intro y0 y1 y2 y3 y4 y5
   unfold spec_l6Draw.j2
   repeat' first
   | (with_reducible exact ih0 _ _ _ _ _ _ _ _)
   | (with_reducible exact ih1 _ _ _ _ _ _ _ _ _)
   | (with_reducible exact ih2 _ _ _ _ _ _)
   | (with_reducible exact spec_AddDevice.mono _ _ _ _ _ _ _ _ _ _)
   | (with_reducible exact LeO.refl _)
   | (with_reducible exact LeO.none _)
   | (with_reducible refine LeO.ite ?_ ?_)
   | (with_reducible refine LeO.bind ?_ (fun _ => ?_))
theorem spec_l6Draw.mono : ∀ a0 a1 a2 k, LeO (spec_l6Draw.f k a0 a1 a2) (spec_l6Draw.f (k + 1) a0 a1 a2) := by
 intro a0 a1 a2 k
 obtain ⟨ih0, ih1, ih2⟩ := spec_l6Draw.mono_l k
 unfold spec_l6Draw.f
 repeat' first
   | (with_reducible exact ih0 _ _ _ _ _ _ _ _)
   | (with_reducible exact ih1 _ _ _ _ _ _ _ _ _)
   | (with_reducible exact ih2 _ _ _ _ _ _)
   | (with_reducible exact spec_AddDevice.mono _ _ _ _ _ _ _ _ _ _)
   | (with_reducible exact LeO.refl _)
   | (with_reducible exact LeO.none _)
   | (with_reducible refine LeO.ite ?_ ?_)
   | (with_reducible refine LeO.bind ?_ (fun _ => ?_))
set_option maxHeartbeats 8000000 in
set_option maxRecDepth 100000 in
theorem spec_l6Draw.calls (k : Nat) (g : Nat) (s0_0 : List Int) (s0_1 : Int) (s0_2 : Int) (r1 : List (S30)) (r2 : Int) (r3 : Int) (w0 w : World) (hI : IsS95 w0 w g s0_0 s0_1 s0_2) (hB : Below w0.heap.size w0 w) (h : spec_l6Draw.f k s0_0 s0_1 s0_2 = some (r1, r2, r3)) :
  Calls Try.prog 66 #[.pointer (some ⟨g, 0, none⟩)] w fun e w' => ∃ v0_ : Value, e = .returned (v0_) ∧ Kd.R k30 30 w' w.heap.size (fun _ => True) v0_ r1 ∧ IsS95 w0 w' g s0_0 r2 r3 ∧ Below w0.heap.size w0 w' ∧ KeepBut w w' g none := by
 have hu30 := Try.underlying30
 have HI0 := am hI
 have HK := am (KeepBut.refl w g none)
 have HL := am hB.size
 clear hI
 have HW0 := am hB.size
 have HB := am hB
 clear hB
 have H : ((some (([(⟨#[112]⟩ : ByteArray), (⟨#[113]⟩ : ByteArray)] : List ByteArray) : List ByteArray)).bind fun y263 => ((spec_l1Below.f s0_0 s0_1 s0_2 2).bind fun bt266 => (if 0 ≤ (wrap64 (1 + bt266.1)) then (if (wrap64 (1 + bt266.1)) ≤ (y263.length : Int) then ((some (y263.take ((wrap64 (1 + bt266.1)) : Int).toNat : List ByteArray)).bind fun y269 => (spec_l6Draw.l0 k (([] : List (S30))) y269 y269 (y269.length : Int) 0 s0_0 bt266.2.1 bt266.2.2)) else (none)) else (none)))) = some (r1, r2, r3) := h
 clear h
 obtain ⟨y260, hy260⟩ : ∃ y_ : List (S30), y_ = (([] : List (S30))) := ⟨_, rfl⟩
 replace H : ((some (([(⟨#[112]⟩ : ByteArray), (⟨#[113]⟩ : ByteArray)] : List ByteArray) : List ByteArray)).bind fun y263 => ((spec_l1Below.f s0_0 s0_1 s0_2 2).bind fun bt266 => (if 0 ≤ (wrap64 (1 + bt266.1)) then (if (wrap64 (1 + bt266.1)) ≤ (y263.length : Int) then ((some (y263.take ((wrap64 (1 + bt266.1)) : Int).toNat : List ByteArray)).bind fun y269 => (spec_l6Draw.l0 k y260 y269 y269 (y269.length : Int) 0 s0_0 bt266.2.1 bt266.2.2)) else (none)) else (none)))) = some (r1, r2, r3) := by first | (rw [hy260]; with_reducible exact H) | (have H2_ := (Option.bind_some _ _).symm.trans H; rw [hy260]; with_reducible exact H2_) | (have H2_ := (Option.bind_some _ _).symm.trans H; with_reducible exact H2_) | with_reducible exact H | (rw [hy260]; exact H) | exact H
 have Ny260 := am hy260
 clear hy260
 obtain ⟨y263, hy263⟩ : ∃ y_ : List ByteArray, y_ = (([(⟨#[112]⟩ : ByteArray), (⟨#[113]⟩ : ByteArray)] : List ByteArray)) := ⟨_, rfl⟩
 replace H : ((spec_l1Below.f s0_0 s0_1 s0_2 2).bind fun bt266 => (if 0 ≤ (wrap64 (1 + bt266.1)) then (if (wrap64 (1 + bt266.1)) ≤ (y263.length : Int) then ((some (y263.take ((wrap64 (1 + bt266.1)) : Int).toNat : List ByteArray)).bind fun y269 => (spec_l6Draw.l0 k y260 y269 y269 (y269.length : Int) 0 s0_0 bt266.2.1 bt266.2.2)) else (none)) else (none))) = some (r1, r2, r3) := by first | (rw [hy263]; with_reducible exact H) | (have H2_ := (Option.bind_some _ _).symm.trans H; rw [hy263]; with_reducible exact H2_) | (have H2_ := (Option.bind_some _ _).symm.trans H; with_reducible exact H2_) | with_reducible exact H | (rw [hy263]; exact H) | exact H
 have Ny263 := am hy263
 clear hy263
 replace H := Option.bind_eq_some_iff.mp H
 obtain ⟨⟨t266, t267, t268⟩, A20, H⟩ := H
 replace H : (if 0 ≤ (wrap64 (1 + t266)) then (if (wrap64 (1 + t266)) ≤ (y263.length : Int) then ((some (y263.take ((wrap64 (1 + t266)) : Int).toNat : List ByteArray)).bind fun y269 => (spec_l6Draw.l0 k y260 y269 y269 (y269.length : Int) 0 s0_0 t267 t268)) else (none)) else (none)) = some (r1, r2, r3) := H
 have A2 := am A20
 clear A20
 obtain ⟨ji3, hji3⟩ : ∃ j_ : Int, (wrap64 (1 + t266)) = j_ := ⟨_, rfl⟩
 replace H : (if 0 ≤ (ji3) then (if (ji3) ≤ (y263.length : Int) then ((some (y263.take ((ji3) : Int).toNat : List ByteArray)).bind fun y269 => (spec_l6Draw.l0 k y260 y269 y269 (y269.length : Int) 0 s0_0 t267 t268)) else (none)) else (none)) = some (r1, r2, r3) := by first | (rw [hji3] at H; exact H) | (simp only [hji3] at H ⊢; exact H)
 (try rw [hji3] at A2)
 have hji3w : (IntKind.i64.wrap (1 + t266)) = ji3 := (i64_w _).trans hji3
 by_cases c4 : 0 ≤ (ji3)
 ·rw [if_pos c4] at H
  have c4b0 := eq_true c4
  have c4b1 : decide (0 ≤ (ji3)) = true := decide_eq_true c4
  clear c4
  by_cases c5 : (ji3) ≤ (y263.length : Int)
  ·rw [if_pos c5] at H
   have c5b0 := eq_true c5
   have c5b1 : decide ((ji3) ≤ (y263.length : Int)) = true := decide_eq_true c5
   clear c5
   obtain ⟨y269, hy269⟩ : ∃ y_ : List ByteArray, y_ = (y263.take ((ji3) : Int).toNat) := ⟨_, rfl⟩
   replace H : (spec_l6Draw.l0 k y260 y269 y269 (y269.length : Int) 0 s0_0 t267 t268) = some (r1, r2, r3) := by first | (rw [hy269]; with_reducible exact H) | (have H2_ := (Option.bind_some _ _).symm.trans H; rw [hy269]; with_reducible exact H2_) | (have H2_ := (Option.bind_some _ _).symm.trans H; with_reducible exact H2_) | with_reducible exact H | (rw [hy269]; exact H) | exact H
   have Ny269 := am hy269
   clear hy269
   have H' := am H
   clear H
   go_enter Try.func66, Try.ntmps66
   go_wp2_with (first | ((with_reducible refine gate_dst (N := 10) rfl ?_); refine Kd.R_lit k30 _ 30 ?hg (N := 10) ?hd (xs := ([] : List (S30))) (inner := []) (ok := fun _ => True) (okp := fun _ => True) ?hr ?hp (fun _ hk => hk) trivial (Below.refl _ _) (Nat.le_refl _) (by simp) ?_; (case hd => rfl); (case hg => rfl); (case hr => exact gq); (case hp => exact (Reps.none _ _)); intro v261 w6 ho7 hb hg_ hnew_; clear hg_ hnew_; (first | rw [← Ny260.out] at ho7 | (simp only [Int.reduceToNat] at ho7; rw [← Ny260.out] at ho7)); have n0_ := am (Kd.R_lower ho7 (keep_size (w := w) (g := g) (row := none) u11_0)); have n1_ := am (IsS95.below u11_4 hb); have n2_ := am (KeepBut.trans u11_0 (KeepBut.of_below hb g none) (.inl rfl)); have n3_ := am (below_step u11_3 hb); clear HI0 HK HB; have HO262 := n0_; have HI0 := n1_; have HK := n2_; have HB := n3_; clear n0_ n1_ n2_ n3_ hb ho7) | ((with_reducible refine gate_dst (N := 11) rfl ?_); refine Kd.R_lit Kd.string _ 9 ?hg (N := 11) ?hd (xs := ([(⟨#[112]⟩ : ByteArray), (⟨#[113]⟩ : ByteArray)] : List ByteArray)) (inner := [.string (⟨#[112]⟩ : ByteArray), .string (⟨#[113]⟩ : ByteArray)]) (ok := fun _ => True) (okp := fun _ => True) ?hr ?hp (fun _ hk => hk) trivial (Below.refl _ _) (Nat.le_refl _) (by simp) ?_; (case hd => rfl); (case hg => rfl); (case hr => exact gq); (case hp => exact (Reps.one (show Kd.M Kd.string _ _ _ (⟨#[112]⟩ : ByteArray) [.string (⟨#[112]⟩ : ByteArray)] from rfl) (Reps.one (show Kd.M Kd.string _ _ _ (⟨#[113]⟩ : ByteArray) [.string (⟨#[113]⟩ : ByteArray)] from rfl) (Reps.none _ _)))); intro v264 w8 ho9 hb hg_ hnew_; clear hg_ hnew_; (first | rw [← Ny263.out] at ho9 | (simp only [Int.reduceToNat] at ho9; rw [← Ny263.out] at ho9)); have n0_ := am (Kd.R_below (by (with_reducible repeat (first | apply Kd.R_alloc | apply Kd.R_drewN | apply Kd.R_drew)); exact HO262.out) hb); have n1_ := am (Kd.R_lower ho9 (keep_size (w := w) (g := g) (row := none) u11_0)); have n2_ := am (IsS95.below u11_4 hb); have n3_ := am (KeepBut.trans u11_0 (KeepBut.of_below hb g none) (.inl rfl)); have n4_ := am (below_step u11_3 hb); clear HO262 HI0 HK HB; have HO262 := n0_; have HO265 := n1_; have HI0 := n2_; have HK := n3_; have HB := n4_; clear n0_ n1_ n2_ n3_ n4_ hb ho9) | ((with_reducible refine gate_callee (f := 84) rfl ?_); refine goesL_ (some 13) rfl rfl Try.func84 (by kernel_rfl) rfl #[.pointer (some ⟨g, 0, none⟩), .int .i64 2] rfl u11_1 ?_; (with_reducible refine (spec_l1Below.calls g s0_0 s0_1 s0_2 2 t266 t267 t268 w0 _ ?side1 ?side2 A2.out).mono ?_); (case side1 => exact s11_2); (case side2 => exact s11_1); rintro e w10 ⟨rfl, hi, hb, hk⟩; refine ⟨_, rfl, ?_⟩; have n0_ := am (Kd.R_mono (Kd.R_keep (IsS95.apart (show IsS95 w0 _ g s0_0 s0_1 s0_2 from by repeat (first | (with_reducible first | exact HI0.out | apply IsS95.alloc | apply IsS95.drewN | apply IsS95.drew | apply IsS95.set_1 | apply IsS95.set_2) | exact HI0.out)) (by (with_reducible repeat (first | apply Kd.R_alloc | apply Kd.R_drewN | apply Kd.R_drew)); exact HO262.out) u11_13) hk (fun _ h => h.2)) (fun _ h => h.1)); have n1_ := am (Kd.R_mono (Kd.R_keep (IsS95.apart (show IsS95 w0 _ g s0_0 s0_1 s0_2 from by repeat (first | (with_reducible first | exact HI0.out | apply IsS95.alloc | apply IsS95.drewN | apply IsS95.drew | apply IsS95.set_1 | apply IsS95.set_2) | exact HI0.out)) (by (with_reducible repeat (first | apply Kd.R_alloc | apply Kd.R_drewN | apply Kd.R_drew)); exact HO265.out) u11_13) hk (fun _ h => h.2)) (fun _ h => h.1)); have n2_ := am (KeepBut.trans u11_0 hk (.inl rfl)); have n3_ := am (hb); have n4_ := am (hi); clear HO262 HO265 HK HB HI0; have HO262 := n0_; have HO265 := n1_; have HK := n2_; have HB := n3_; have HI0 := n4_; clear n0_ n1_ n2_ n3_ n4_; (try clear hb); (try clear hb2); (try clear hk); (try clear hi); obtain ⟨Ao11, co11, eo11⟩ := Kd.R_slice HO265.out; subst eo11; have q12 : ((ji3) : Int) ≤ ((y263.length : Int) : Int) := od (by assumption); obtain ⟨i012, hi012, _, hsz12, _⟩ := info_parts info9; have hcut12 := cut_to (P := Try.prog) 49 9 .i64 Try.underlying49 hi012 Ao11 y263.length co11 (ji3) (od (by assumption)) q12 (Kd.R_reads' HO265.out).2.1; have hr12 := Kd.R_take (m := ((ji3) : Int).toNat) HO265.out (by omega); have hy12 : y269.length = ((ji3) : Int).toNat := (by rw [Ny269.out, List.length_take]; omega); rw [← Ny269.out] at hr12; rw [← hy12] at hr12 hcut12; clear hy12 hi012 hsz12 HO265; have HO271 := am hr12; clear hr12; replace q12 := eq_true q12))
   go_loopg [3, 18] k (fun kq v3 v18 w' => ∃ (x3_1 : List (S30)) (x18_1 : Int) (x1001_1 : Int) (x1002_1 : Int), v18 = .int .i64 x18_1 ∧ Aside0 (spec_l6Draw.l0 kq x3_1 y269 y269 (y269.length : Int) x18_1 s0_0 x1001_1 x1002_1 = some (r1, r2, r3)) ∧ Aside0 (kq ≤ k) ∧ Aside0 (Kd.R k30 30 w' w.heap.size (fun _ => True) v3 x3_1) ∧ Aside0 (Kd.R Kd.string 9 w' w.heap.size (fun _ => True) (.slice Ao11 y269.length co11) y269) ∧ Aside0 (Kd.R Kd.string 9 w' w.heap.size (fun _ => True) (.slice Ao11 y269.length co11) y269) ∧ Aside0 (IsS95 w0 w' g s0_0 x1001_1 x1002_1) ∧ Aside0 (KeepBut w w' g none) ∧ Aside0 (Below w0.heap.size w0 w'))
   case atStart => exact ⟨(y260), (0), (t267), (t268), u11_8, H', ⟨Nat.le_refl _⟩, ⟨by (with_reducible repeat (first | apply Kd.R_alloc | apply Kd.R_drewN | apply Kd.R_drew)); exact HO262.out⟩, ⟨by (with_reducible repeat (first | apply Kd.R_alloc | apply Kd.R_drewN | apply Kd.R_drew)); exact HO271.out⟩, ⟨by (with_reducible repeat (first | apply Kd.R_alloc | apply Kd.R_drewN | apply Kd.R_drew)); exact HO271.out⟩, ⟨s11_2⟩, ⟨s11_3⟩, ⟨s11_1⟩⟩
   case round =>
    clear H'
    try clear q1
    try clear p2
    try clear c4
    try clear c4b0
    try clear c4b1
    try clear c5
    try clear c5b0
    try clear c5b1
    try clear c6
    try clear p6
    try clear c8
    try clear q12
    try clear q12
    obtain ⟨x3_1, x18_1, x1001_1, x1002_1, rfl, HA, HK1, HO_3, HO_4, HO_16, HI0, HK, HB⟩ := hrel
    cases gk with
    | zero => exact absurd HA.out (by simp [spec_l6Draw.l0])
    | succ k1 =>
     have H := HA.out
     clear HA
     simp only [spec_l6Draw.l0] at H
     by_cases c13 : x18_1 < (y269.length : Int)
     ·rw [if_pos c13] at H
      have c13b0 : decide (x18_1 < (y269.length : Int)) = true := decide_eq_true c13
      clear c13
      by_cases c14 : 0 ≤ x18_1
      ·rw [if_pos c14] at H
       have c14b0 : decide (0 ≤ x18_1) = true := decide_eq_true c14
       clear c14
       by_cases c15 : x18_1 < (y269.length : Int)
       ·rw [if_pos c15] at H
        have c15b0 : decide (x18_1 < (y269.length : Int)) = true := decide_eq_true c15
        clear c15
        replace H := Option.bind_eq_some_iff.mp H
        obtain ⟨⟨t273, t274, t275⟩, A160, H⟩ := H
        replace H : ((spec_AddDevice.f k1 x3_1 (rdOf ByteArray.empty y269 x18_1) 1 (⟨#[]⟩ : ByteArray) 0 0 0 0 t273).bind fun bt276 => (spec_l6Draw.l0 k1 bt276.1 y269 y269 (y269.length : Int) (wrap64 (x18_1 + 1)) s0_0 t274 t275)) = some (r1, r2, r3) := H
        have A16 := am A160
        clear A160
        replace H := Option.bind_eq_some_iff.mp H
        obtain ⟨⟨t276, t279⟩, A170, H⟩ := H
        replace H : (spec_l6Draw.l0 k1 t276 y269 y269 (y269.length : Int) (wrap64 (x18_1 + 1)) s0_0 t274 t275) = some (r1, r2, r3) := H
        have A17 := am A170
        clear A170
        have H' := am H
        clear H
        have p272 : 0 ≤ (x18_1 : Int) := od (by assumption)
        have q272 : x18_1 < (y269.length : Int) := od (by assumption)
        obtain ⟨ad272, e272, hx272_0⟩ := Kd.at_string (Kd.R_reads' HO_16.out).2.2 x18_1 p272 q272
        cases e272
        replace p272 := eq_true p272
        replace q272 := eq_true q272
        go_wp2_with (first | ((with_reducible refine gate_callee (f := 84) rfl ?_); refine goesL_ (some 26) rfl rfl Try.func84 (by kernel_rfl) rfl #[.pointer (some ⟨g, 0, none⟩), .int .i64 80] rfl u11_1 ?_; (with_reducible refine (spec_l1Below.calls g s0_0 x1001_1 x1002_1 80 t273 t274 t275 w0 _ ?side1 ?side2 A16.out).mono ?_); (case side1 => exact s11_2); (case side2 => exact s11_1); rintro e w18 ⟨rfl, hi, hb, hk⟩; refine ⟨_, rfl, ?_⟩; have n0_ := am (Kd.R_mono (Kd.R_keep (IsS95.apart (show IsS95 w0 _ g s0_0 x1001_1 x1002_1 from by repeat (first | (with_reducible first | exact HI0.out | apply IsS95.alloc | apply IsS95.drewN | apply IsS95.drew | apply IsS95.set_1 | apply IsS95.set_2) | exact HI0.out)) u11_2 u11_13) hk (fun _ h => h.2)) (fun _ h => h.1)); have n1_ := am (Kd.R_mono (Kd.R_keep (IsS95.apart (show IsS95 w0 _ g s0_0 x1001_1 x1002_1 from by repeat (first | (with_reducible first | exact HI0.out | apply IsS95.alloc | apply IsS95.drewN | apply IsS95.drew | apply IsS95.set_1 | apply IsS95.set_2) | exact HI0.out)) u11_6 u11_13) hk (fun _ h => h.2)) (fun _ h => h.1)); have n2_ := am (Kd.R_mono (Kd.R_keep (IsS95.apart (show IsS95 w0 _ g s0_0 x1001_1 x1002_1 from by repeat (first | (with_reducible first | exact HI0.out | apply IsS95.alloc | apply IsS95.drewN | apply IsS95.drew | apply IsS95.set_1 | apply IsS95.set_2) | exact HI0.out)) u11_9 u11_13) hk (fun _ h => h.2)) (fun _ h => h.1)); have n3_ := am (KeepBut.trans u11_0 hk (.inl rfl)); have n4_ := am (hb); have n5_ := am (hi); clear HO_3 HO_4 HO_16 HK HB HI0; have HO_3 := n0_; have HO_4 := n1_; have HO_16 := n2_; have HK := n3_; have HB := n4_; have HI0 := n5_; clear n0_ n1_ n2_ n3_ n4_ n5_; (try clear hb); (try clear hb2); (try clear hk); (try clear hi); obtain ⟨Ao19, co19, eo19⟩ := Kd.R_slice HO_3.out; subst eo19) | ((with_reducible refine gate_callee (f := 47) rfl ?_); refine goesL_ (some 28) rfl rfl Try.func47 (by kernel_rfl) rfl #[.slice Ao19 x3_1.length co19, .agg #[.string (rdOf ByteArray.empty y269 x18_1), .int .i64 1, .string (⟨#[]⟩ : ByteArray), .int .i64 0, .int .i64 0, .int .i64 0, .int .i64 0, .int .i64 t273]] rfl u11_1 ?_; (with_reducible refine (spec_AddDevice.calls k1 _ _ x3_1 (rdOf ByteArray.empty y269 x18_1) 1 (⟨#[]⟩ : ByteArray) 0 0 0 0 t273 t276 t279 _ ?side1 ?side2 A17.out).mono ?_); (case side1 => exact y11_1); (case side2 => exact (Kd.R_reads' HO_3.out).2.1); rintro e w20 ⟨v277, rfl, ho0, hb⟩; refine ⟨_, rfl, ?_⟩; have n0_ := am (Kd.R_elder' u11_2 (Kd.R_base ho0) hb); have n1_ := am (Kd.R_below u11_6 hb); have n2_ := am (Kd.R_below u11_9 hb); have n3_ := am (Kd.R_lower (Kd.R_new' ho0 (Kd.R_lt u11_2)) (keep_size (w := w) (g := g) (row := none) u11_0)); have n4_ := am (IsS95.below u11_4 hb); have n5_ := am (KeepBut.trans u11_0 (KeepBut.of_below hb g none) (.inl rfl)); have n6_ := am (below_step u11_3 hb); clear HO_3 HO_4 HO_16 HI0 HK HB; have HO_3 := n0_; have HO_4 := n1_; have HO_16 := n2_; have HO278 := n3_; have HI0 := n4_; have HK := n5_; have HB := n6_; clear n0_ n1_ n2_ n3_ n4_ n5_ n6_; (try clear hb); (try clear hb2); (try clear hk); (try clear hi); (try clear ho0)))
        go_roundg k1
        case measure => have := HK1.out; omega
        case rel => exact ⟨(t276), (wrap64 (x18_1 + 1)), (t274), (t275), u11_8, H', ⟨by have := HK1.out; omega⟩, ⟨by (with_reducible repeat (first | apply Kd.R_alloc | apply Kd.R_drewN | apply Kd.R_drew)); exact Kd.R_mono HO278.out (fun _ hk => trivial)⟩, ⟨by (with_reducible repeat (first | apply Kd.R_alloc | apply Kd.R_drewN | apply Kd.R_drew)); exact HO_4.out⟩, ⟨by (with_reducible repeat (first | apply Kd.R_alloc | apply Kd.R_drewN | apply Kd.R_drew)); exact HO_16.out⟩, ⟨s11_2⟩, ⟨s11_3⟩, ⟨s11_1⟩⟩
       ·rw [if_neg c15] at H
        exact absurd H (by simp)
      ·rw [if_neg c14] at H
       exact absurd H (by simp)
     ·rw [if_neg c13] at H
      have c13b0 : decide (x18_1 < (y269.length : Int)) = false := decide_eq_false c13
      clear c13
      obtain ⟨y280, hy280⟩ : ∃ y_ : List ByteArray, y_ = (([(⟨#[97]⟩ : ByteArray), (⟨#[98]⟩ : ByteArray), (⟨#[99]⟩ : ByteArray), (⟨#[114]⟩ : ByteArray)] : List ByteArray)) := ⟨_, rfl⟩
      replace H : ((spec_l1Below.f s0_0 x1001_1 x1002_1 5).bind fun bt283 => (if 0 ≤ bt283.1 then (if bt283.1 ≤ (y280.length : Int) then ((some (y280.take (bt283.1 : Int).toNat : List ByteArray)).bind fun y286 => (spec_l6Draw.l1 k1 x3_1 y269 y286 y286 (y286.length : Int) 0 s0_0 bt283.2.1 bt283.2.2)) else (none)) else (none))) = some (r1, r2, r3) := by first | (rw [hy280]; with_reducible exact H) | (have H2_ := (Option.bind_some _ _).symm.trans H; rw [hy280]; with_reducible exact H2_) | (have H2_ := (Option.bind_some _ _).symm.trans H; with_reducible exact H2_) | with_reducible exact H | (rw [hy280]; exact H) | exact H
      have Ny280 := am hy280
      clear hy280
      replace H := Option.bind_eq_some_iff.mp H
      obtain ⟨⟨t283, t284, t285⟩, A210, H⟩ := H
      replace H : (if 0 ≤ t283 then (if t283 ≤ (y280.length : Int) then ((some (y280.take (t283 : Int).toNat : List ByteArray)).bind fun y286 => (spec_l6Draw.l1 k1 x3_1 y269 y286 y286 (y286.length : Int) 0 s0_0 t284 t285)) else (none)) else (none)) = some (r1, r2, r3) := H
      have A21 := am A210
      clear A210
      by_cases c22 : 0 ≤ t283
      ·rw [if_pos c22] at H
       have c22b0 := eq_true c22
       have c22b1 : decide (0 ≤ t283) = true := decide_eq_true c22
       clear c22
       by_cases c23 : t283 ≤ (y280.length : Int)
       ·rw [if_pos c23] at H
        have c23b0 := eq_true c23
        have c23b1 : decide (t283 ≤ (y280.length : Int)) = true := decide_eq_true c23
        clear c23
        obtain ⟨y286, hy286⟩ : ∃ y_ : List ByteArray, y_ = (y280.take (t283 : Int).toNat) := ⟨_, rfl⟩
        replace H : (spec_l6Draw.l1 k1 x3_1 y269 y286 y286 (y286.length : Int) 0 s0_0 t284 t285) = some (r1, r2, r3) := by first | (rw [hy286]; with_reducible exact H) | (have H2_ := (Option.bind_some _ _).symm.trans H; rw [hy286]; with_reducible exact H2_) | (have H2_ := (Option.bind_some _ _).symm.trans H; with_reducible exact H2_) | with_reducible exact H | (rw [hy286]; exact H) | exact H
        have Ny286 := am hy286
        clear hy286
        have H' := am H
        clear H
        go_wp2_with (first | ((with_reducible refine gate_dst (N := 32) rfl ?_); refine Kd.R_lit Kd.string _ 9 ?hg (N := 32) ?hd (xs := ([(⟨#[97]⟩ : ByteArray), (⟨#[98]⟩ : ByteArray), (⟨#[99]⟩ : ByteArray), (⟨#[114]⟩ : ByteArray)] : List ByteArray)) (inner := [.string (⟨#[97]⟩ : ByteArray), .string (⟨#[98]⟩ : ByteArray), .string (⟨#[99]⟩ : ByteArray), .string (⟨#[114]⟩ : ByteArray)]) (ok := fun _ => True) (okp := fun _ => True) ?hr ?hp (fun _ hk => hk) trivial (Below.refl _ _) (Nat.le_refl _) (by simp) ?_; (case hd => rfl); (case hg => rfl); (case hr => exact gq); (case hp => exact (Reps.one (show Kd.M Kd.string _ _ _ (⟨#[97]⟩ : ByteArray) [.string (⟨#[97]⟩ : ByteArray)] from rfl) (Reps.one (show Kd.M Kd.string _ _ _ (⟨#[98]⟩ : ByteArray) [.string (⟨#[98]⟩ : ByteArray)] from rfl) (Reps.one (show Kd.M Kd.string _ _ _ (⟨#[99]⟩ : ByteArray) [.string (⟨#[99]⟩ : ByteArray)] from rfl) (Reps.one (show Kd.M Kd.string _ _ _ (⟨#[114]⟩ : ByteArray) [.string (⟨#[114]⟩ : ByteArray)] from rfl) (Reps.none _ _)))))); intro v281 w24 ho25 hb hg_ hnew_; clear hg_ hnew_; (first | rw [← Ny280.out] at ho25 | (simp only [Int.reduceToNat] at ho25; rw [← Ny280.out] at ho25)); have n0_ := am (Kd.R_below u11_2 hb); have n1_ := am (Kd.R_elder' u11_6 (Kd.R_base ho25) hb); have n2_ := am (Kd.R_elder' u11_9 (Kd.R_base ho25) hb); have n3_ := am (Kd.R_lower (Kd.R_new' (Kd.R_new' ho25 (Kd.R_lt u11_6)) (Kd.R_lt u11_9)) (keep_size (w := w) (g := g) (row := none) u11_0)); have n4_ := am (IsS95.below u11_4 hb); have n5_ := am (KeepBut.trans u11_0 (KeepBut.of_below hb g none) (.inl rfl)); have n6_ := am (below_step u11_3 hb); clear HO_3 HO_4 HO_16 HI0 HK HB; have HO_3 := n0_; have HO_4 := n1_; have HO_16 := n2_; have HO282 := n3_; have HI0 := n4_; have HK := n5_; have HB := n6_; clear n0_ n1_ n2_ n3_ n4_ n5_ n6_ hb ho25) | ((with_reducible refine gate_callee (f := 84) rfl ?_); refine goesL_ (some 34) rfl rfl Try.func84 (by kernel_rfl) rfl #[.pointer (some ⟨g, 0, none⟩), .int .i64 5] rfl u11_1 ?_; (with_reducible refine (spec_l1Below.calls g s0_0 x1001_1 x1002_1 5 t283 t284 t285 w0 _ ?side1 ?side2 A21.out).mono ?_); (case side1 => exact s11_2); (case side2 => exact s11_1); rintro e w26 ⟨rfl, hi, hb, hk⟩; refine ⟨_, rfl, ?_⟩; have n0_ := am (Kd.R_mono (Kd.R_keep (IsS95.apart (show IsS95 w0 _ g s0_0 x1001_1 x1002_1 from by repeat (first | (with_reducible first | exact HI0.out | apply IsS95.alloc | apply IsS95.drewN | apply IsS95.drew | apply IsS95.set_1 | apply IsS95.set_2) | exact HI0.out)) u11_2 u11_13) hk (fun _ h => h.2)) (fun _ h => h.1)); have n1_ := am (Kd.R_mono (Kd.R_keep (IsS95.apart (show IsS95 w0 _ g s0_0 x1001_1 x1002_1 from by repeat (first | (with_reducible first | exact HI0.out | apply IsS95.alloc | apply IsS95.drewN | apply IsS95.drew | apply IsS95.set_1 | apply IsS95.set_2) | exact HI0.out)) u11_6 u11_13) hk (fun _ h => h.2)) (fun _ h => h.1)); have n2_ := am (Kd.R_mono (Kd.R_keep (IsS95.apart (show IsS95 w0 _ g s0_0 x1001_1 x1002_1 from by repeat (first | (with_reducible first | exact HI0.out | apply IsS95.alloc | apply IsS95.drewN | apply IsS95.drew | apply IsS95.set_1 | apply IsS95.set_2) | exact HI0.out)) u11_9 u11_13) hk (fun _ h => h.2)) (fun _ h => h.1)); have n3_ := am (Kd.R_mono (Kd.R_keep (IsS95.apart (show IsS95 w0 _ g s0_0 x1001_1 x1002_1 from by repeat (first | (with_reducible first | exact HI0.out | apply IsS95.alloc | apply IsS95.drewN | apply IsS95.drew | apply IsS95.set_1 | apply IsS95.set_2) | exact HI0.out)) (by (with_reducible repeat (first | apply Kd.R_alloc | apply Kd.R_drewN | apply Kd.R_drew)); exact HO282.out) u11_13) hk (fun _ h => h.2)) (fun _ h => h.1)); have n4_ := am (KeepBut.trans u11_0 hk (.inl rfl)); have n5_ := am (hb); have n6_ := am (hi); clear HO_3 HO_4 HO_16 HO282 HK HB HI0; have HO_3 := n0_; have HO_4 := n1_; have HO_16 := n2_; have HO282 := n3_; have HK := n4_; have HB := n5_; have HI0 := n6_; clear n0_ n1_ n2_ n3_ n4_ n5_ n6_; (try clear hb); (try clear hb2); (try clear hk); (try clear hi); obtain ⟨Ao27, co27, eo27⟩ := Kd.R_slice HO282.out; subst eo27; have q28 : (t283 : Int) ≤ ((y280.length : Int) : Int) := od (by assumption); obtain ⟨i028, hi028, _, hsz28, _⟩ := info_parts info9; have hcut28 := cut_to (P := Try.prog) 49 9 .i64 Try.underlying49 hi028 Ao27 y280.length co27 t283 (od (by assumption)) q28 (Kd.R_reads' HO282.out).2.1; have hr28 := Kd.R_take (m := (t283 : Int).toNat) HO282.out (by omega); have hy28 : y286.length = (t283 : Int).toNat := (by rw [Ny286.out, List.length_take]; omega); rw [← Ny286.out] at hr28; rw [← hy28] at hr28 hcut28; clear hy28 hi028 hsz28 HO282; have HO288 := am hr28; clear hr28; replace q28 := eq_true q28))
        go_loopg [3, 38] k1 (fun kq v3 v38 w' => ∃ (x3_2 : List (S30)) (x38_2 : Int) (x1001_2 : Int) (x1002_2 : Int), v38 = .int .i64 x38_2 ∧ Aside0 (spec_l6Draw.l1 kq x3_2 y269 y286 y286 (y286.length : Int) x38_2 s0_0 x1001_2 x1002_2 = some (r1, r2, r3)) ∧ Aside0 (kq ≤ k1) ∧ Aside0 (Kd.R k30 30 w' w.heap.size (fun _ => True) v3 x3_2) ∧ Aside0 (Kd.R Kd.string 9 w' w.heap.size (fun k_ => some k_ ≠ ((.slice Ao27 y286.length co27) : Value).ownBlock ∧ some k_ ≠ ((.slice Ao27 y286.length co27) : Value).ownBlock) (.slice Ao11 y269.length co11) y269) ∧ Aside0 (Kd.R Kd.string 9 w' w.heap.size (fun k_ => some k_ ≠ ((.slice Ao11 y269.length co11) : Value).ownBlock) (.slice Ao27 y286.length co27) y286) ∧ Aside0 (Kd.R Kd.string 9 w' w.heap.size (fun k_ => some k_ ≠ ((.slice Ao11 y269.length co11) : Value).ownBlock) (.slice Ao27 y286.length co27) y286) ∧ Aside0 (IsS95 w0 w' g s0_0 x1001_2 x1002_2) ∧ Aside0 (KeepBut w w' g none) ∧ Aside0 (Below w0.heap.size w0 w'))
        case atStart => exact ⟨(x3_1), (0), (t284), (t285), u11_8, H', ⟨Nat.le_refl _⟩, ⟨by (with_reducible repeat (first | apply Kd.R_alloc | apply Kd.R_drewN | apply Kd.R_drew)); exact HO_3.out⟩, ⟨by (with_reducible repeat (first | apply Kd.R_alloc | apply Kd.R_drewN | apply Kd.R_drew)); exact Kd.R_mono HO_4.out (fun _ hk => ⟨fun e_ => hk.2 (e_.trans obk), fun e_ => hk.2 (e_.trans obk)⟩)⟩, ⟨by (with_reducible repeat (first | apply Kd.R_alloc | apply Kd.R_drewN | apply Kd.R_drew)); exact Kd.R_mono HO288.out (fun _ hk => hk.1.2)⟩, ⟨by (with_reducible repeat (first | apply Kd.R_alloc | apply Kd.R_drewN | apply Kd.R_drew)); exact Kd.R_mono HO288.out (fun _ hk => hk.1.2)⟩, ⟨s11_2⟩, ⟨s11_3⟩, ⟨s11_1⟩⟩
        case round =>
         clear H'
         try clear c1
         try clear q1
         try clear c2
         try clear p2
         try clear q2
         try clear hx2
         try clear c4
         try clear c4b0
         try clear c4b1
         try clear c5
         try clear c5b0
         try clear c5b1
         try clear c6
         try clear p6
         try clear c8
         try clear q12
         try clear c13
         try clear c13b0
         try clear c14
         try clear c14b0
         try clear c15
         try clear c15b0
         try clear c22
         try clear c22b0
         try clear c22b1
         try clear c23
         try clear c23b0
         try clear c23b1
         try clear p27
         try clear q27
         try clear hx27
         try clear q28
         try clear hx272_0
         try clear p2
         try clear p272
         try clear p6
         try clear q1
         try clear q12
         try clear q272
         try clear q28
         obtain ⟨x3_2, x38_2, x1001_2, x1002_2, rfl, HA, HK2, HO_3, HO_4, HO_7, HO_36, HI0, HK, HB⟩ := hrel
         cases gk with
         | zero => exact absurd HA.out (by simp [spec_l6Draw.l1])
         | succ k2 =>
          have H := HA.out
          clear HA
          simp only [spec_l6Draw.l1] at H
          by_cases c29 : x38_2 < (y286.length : Int)
          ·rw [if_pos c29] at H
           have c29b0 : decide (x38_2 < (y286.length : Int)) = true := decide_eq_true c29
           clear c29
           by_cases c30 : 0 ≤ x38_2
           ·rw [if_pos c30] at H
            have c30b0 : decide (0 ≤ x38_2) = true := decide_eq_true c30
            clear c30
            by_cases c31 : x38_2 < (y286.length : Int)
            ·rw [if_pos c31] at H
             have c31b0 : decide (x38_2 < (y286.length : Int)) = true := decide_eq_true c31
             clear c31
             replace H := Option.bind_eq_some_iff.mp H
             obtain ⟨⟨t290, t291, t292⟩, A320, H⟩ := H
             replace H : ((spec_l6Nozzle.f s0_0 t291 t292 (rdOf ByteArray.empty y286 x38_2) t290).bind fun bt293 => ((spec_AddDevice.f k2 x3_2 bt293.1 bt293.2.1 bt293.2.2.1 bt293.2.2.2.1 bt293.2.2.2.2.1 bt293.2.2.2.2.2.1 bt293.2.2.2.2.2.2.1 bt293.2.2.2.2.2.2.2.1).bind fun bt303 => (spec_l6Draw.l1 k2 bt303.1 y269 y286 y286 (y286.length : Int) (wrap64 (x38_2 + 1)) s0_0 bt293.2.2.2.2.2.2.2.2.1 bt293.2.2.2.2.2.2.2.2.2))) = some (r1, r2, r3) := H
             have A32 := am A320
             clear A320
             replace H := Option.bind_eq_some_iff.mp H
             obtain ⟨⟨t293, t294, t295, t296, t297, t298, t299, t300, t301, t302⟩, A330, H⟩ := H
             replace H : ((spec_AddDevice.f k2 x3_2 t293 t294 t295 t296 t297 t298 t299 t300).bind fun bt303 => (spec_l6Draw.l1 k2 bt303.1 y269 y286 y286 (y286.length : Int) (wrap64 (x38_2 + 1)) s0_0 t301 t302)) = some (r1, r2, r3) := H
             have A33 := am A330
             clear A330
             replace H := Option.bind_eq_some_iff.mp H
             obtain ⟨⟨t303, t306⟩, A340, H⟩ := H
             replace H : (spec_l6Draw.l1 k2 t303 y269 y286 y286 (y286.length : Int) (wrap64 (x38_2 + 1)) s0_0 t301 t302) = some (r1, r2, r3) := H
             have A34 := am A340
             clear A340
             have H' := am H
             clear H
             have p289 : 0 ≤ (x38_2 : Int) := od (by assumption)
             have q289 : x38_2 < (y286.length : Int) := od (by assumption)
             obtain ⟨ad289, e289, hx289_0⟩ := Kd.at_string (Kd.R_reads' HO_36.out).2.2 x38_2 p289 q289
             cases e289
             replace p289 := eq_true p289
             replace q289 := eq_true q289
             go_wp2_with (first | ((with_reducible refine gate_callee (f := 86) rfl ?_); refine goesL_ (some 48) rfl rfl Try.func86 (by kernel_rfl) rfl #[.pointer (some ⟨g, 0, none⟩), .slice Ao11 y269.length co11] rfl u11_1 ?_; (with_reducible refine (spec_l1Str.calls g s0_0 x1001_2 x1002_2 _ _ y269 t290 t291 t292 w0 _ ?side1 ?side2 ?side3 ?side4 ?side5 A32.out).mono ?_); (case side1 => exact s11_2); (case side2 => exact s11_1); (case side3 => repeat (first | exact (Kd.R_reads' HO_4.out).2.2 | (with_reducible refine Kd.C_alloc ?_ _) | (with_reducible refine Kd.C_drewN ?_ _) | (with_reducible refine Kd.C_drew ?_))); (case side4 => exact (Kd.R_reads' HO_4.out).2.1); (case side5 => exact far_slice (IsS95.own_ne HI0.out HO_4.out u11_13)); rintro e w35 ⟨rfl, hi, hb, hk⟩; refine ⟨_, rfl, ?_⟩; have n0_ := am (Kd.R_mono (Kd.R_keep (IsS95.apart (show IsS95 w0 _ g s0_0 x1001_2 x1002_2 from by repeat (first | (with_reducible first | exact HI0.out | apply IsS95.alloc | apply IsS95.drewN | apply IsS95.drew | apply IsS95.set_1 | apply IsS95.set_2) | exact HI0.out)) u11_2 u11_13) hk (fun _ h => h.2)) (fun _ h => h.1)); have n1_ := am (Kd.R_mono (Kd.R_keep (IsS95.apart (show IsS95 w0 _ g s0_0 x1001_2 x1002_2 from by repeat (first | (with_reducible first | exact HI0.out | apply IsS95.alloc | apply IsS95.drewN | apply IsS95.drew | apply IsS95.set_1 | apply IsS95.set_2) | exact HI0.out)) u11_6 u11_13) hk (fun _ h => h.2)) (fun _ h => h.1)); have n2_ := am (Kd.R_mono (Kd.R_keep (IsS95.apart (show IsS95 w0 _ g s0_0 x1001_2 x1002_2 from by repeat (first | (with_reducible first | exact HI0.out | apply IsS95.alloc | apply IsS95.drewN | apply IsS95.drew | apply IsS95.set_1 | apply IsS95.set_2) | exact HI0.out)) u11_5 u11_13) hk (fun _ h => h.2)) (fun _ h => h.1)); have n3_ := am (Kd.R_mono (Kd.R_keep (IsS95.apart (show IsS95 w0 _ g s0_0 x1001_2 x1002_2 from by repeat (first | (with_reducible first | exact HI0.out | apply IsS95.alloc | apply IsS95.drewN | apply IsS95.drew | apply IsS95.set_1 | apply IsS95.set_2) | exact HI0.out)) u11_11 u11_13) hk (fun _ h => h.2)) (fun _ h => h.1)); have n4_ := am (KeepBut.trans u11_0 hk (.inl rfl)); have n5_ := am (hb); have n6_ := am (hi); clear HO_3 HO_4 HO_7 HO_36 HK HB HI0; have HO_3 := n0_; have HO_4 := n1_; have HO_7 := n2_; have HO_36 := n3_; have HK := n4_; have HB := n5_; have HI0 := n6_; clear n0_ n1_ n2_ n3_ n4_ n5_ n6_; (try clear hb); (try clear hb2); (try clear hk); (try clear hi)) | ((with_reducible refine gate_callee (f := 85) rfl ?_); refine goesL_ (some 49) rfl rfl Try.func85 (by kernel_rfl) rfl #[.pointer (some ⟨g, 0, none⟩), .string (rdOf ByteArray.empty y286 x38_2), .string t290] rfl u11_1 ?_; (with_reducible refine (spec_l6Nozzle.calls g s0_0 t291 t292 (rdOf ByteArray.empty y286 x38_2) t290 t293 t294 t295 t296 t297 t298 t299 t300 t301 t302 w0 _ ?side1 ?side2 A33.out).mono ?_); (case side1 => exact s11_2); (case side2 => exact s11_1); rintro e w36 ⟨rfl, hi, hb, hk⟩; refine ⟨_, rfl, ?_⟩; have n0_ := am (Kd.R_mono (Kd.R_keep (IsS95.apart (show IsS95 w0 _ g s0_0 t291 t292 from by repeat (first | (with_reducible first | exact HI0.out | apply IsS95.alloc | apply IsS95.drewN | apply IsS95.drew | apply IsS95.set_1 | apply IsS95.set_2) | exact HI0.out)) u11_2 u11_13) hk (fun _ h => h.2)) (fun _ h => h.1)); have n1_ := am (Kd.R_mono (Kd.R_keep (IsS95.apart (show IsS95 w0 _ g s0_0 t291 t292 from by repeat (first | (with_reducible first | exact HI0.out | apply IsS95.alloc | apply IsS95.drewN | apply IsS95.drew | apply IsS95.set_1 | apply IsS95.set_2) | exact HI0.out)) u11_6 u11_13) hk (fun _ h => h.2)) (fun _ h => h.1)); have n2_ := am (Kd.R_mono (Kd.R_keep (IsS95.apart (show IsS95 w0 _ g s0_0 t291 t292 from by repeat (first | (with_reducible first | exact HI0.out | apply IsS95.alloc | apply IsS95.drewN | apply IsS95.drew | apply IsS95.set_1 | apply IsS95.set_2) | exact HI0.out)) u11_5 u11_13) hk (fun _ h => h.2)) (fun _ h => h.1)); have n3_ := am (Kd.R_mono (Kd.R_keep (IsS95.apart (show IsS95 w0 _ g s0_0 t291 t292 from by repeat (first | (with_reducible first | exact HI0.out | apply IsS95.alloc | apply IsS95.drewN | apply IsS95.drew | apply IsS95.set_1 | apply IsS95.set_2) | exact HI0.out)) u11_11 u11_13) hk (fun _ h => h.2)) (fun _ h => h.1)); have n4_ := am (KeepBut.trans u11_0 hk (.inl rfl)); have n5_ := am (hb); have n6_ := am (hi); clear HO_3 HO_4 HO_7 HO_36 HK HB HI0; have HO_3 := n0_; have HO_4 := n1_; have HO_7 := n2_; have HO_36 := n3_; have HK := n4_; have HB := n5_; have HI0 := n6_; clear n0_ n1_ n2_ n3_ n4_ n5_ n6_; (try clear hb); (try clear hb2); (try clear hk); (try clear hi); obtain ⟨Ao37, co37, eo37⟩ := Kd.R_slice HO_3.out; subst eo37) | ((with_reducible refine gate_callee (f := 47) rfl ?_); refine goesL_ (some 50) rfl rfl Try.func47 (by kernel_rfl) rfl #[.slice Ao37 x3_2.length co37, .agg #[.string t293, .int .i64 t294, .string t295, .int .i64 t296, .int .i64 t297, .int .i64 t298, .int .i64 t299, .int .i64 t300]] rfl u11_1 ?_; (with_reducible refine (spec_AddDevice.calls k2 _ _ x3_2 t293 t294 t295 t296 t297 t298 t299 t300 t303 t306 _ ?side1 ?side2 A34.out).mono ?_); (case side1 => exact y11_1); (case side2 => exact (Kd.R_reads' HO_3.out).2.1); rintro e w38 ⟨v304, rfl, ho0, hb⟩; refine ⟨_, rfl, ?_⟩; have n0_ := am (Kd.R_elder' u11_2 (Kd.R_base ho0) hb); have n1_ := am (Kd.R_below u11_6 hb); have n2_ := am (Kd.R_below u11_5 hb); have n3_ := am (Kd.R_below u11_11 hb); have n4_ := am (Kd.R_lower (Kd.R_new' ho0 (Kd.R_lt u11_2)) (keep_size (w := w) (g := g) (row := none) u11_0)); have n5_ := am (IsS95.below u11_4 hb); have n6_ := am (KeepBut.trans u11_0 (KeepBut.of_below hb g none) (.inl rfl)); have n7_ := am (below_step u11_3 hb); clear HO_3 HO_4 HO_7 HO_36 HI0 HK HB; have HO_3 := n0_; have HO_4 := n1_; have HO_7 := n2_; have HO_36 := n3_; have HO305 := n4_; have HI0 := n5_; have HK := n6_; have HB := n7_; clear n0_ n1_ n2_ n3_ n4_ n5_ n6_ n7_; (try clear hb); (try clear hb2); (try clear hk); (try clear hi); (try clear ho0)))
             go_roundg k2
             case measure => have := HK1.out; have := HK2.out; omega
             case rel => exact ⟨(t303), (wrap64 (x38_2 + 1)), (t301), (t302), u11_8, H', ⟨by have := HK1.out; have := HK2.out; omega⟩, ⟨by (with_reducible repeat (first | apply Kd.R_alloc | apply Kd.R_drewN | apply Kd.R_drew)); exact Kd.R_mono HO305.out (fun _ hk => trivial)⟩, ⟨by (with_reducible repeat (first | apply Kd.R_alloc | apply Kd.R_drewN | apply Kd.R_drew)); exact HO_4.out⟩, ⟨by (with_reducible repeat (first | apply Kd.R_alloc | apply Kd.R_drewN | apply Kd.R_drew)); exact HO_7.out⟩, ⟨by (with_reducible repeat (first | apply Kd.R_alloc | apply Kd.R_drewN | apply Kd.R_drew)); exact HO_36.out⟩, ⟨s11_2⟩, ⟨s11_3⟩, ⟨s11_1⟩⟩
            ·rw [if_neg c31] at H
             exact absurd H (by simp)
           ·rw [if_neg c30] at H
            exact absurd H (by simp)
          ·rw [if_neg c29] at H
           have c29b0 : decide (x38_2 < (y286.length : Int)) = false := decide_eq_false c29
           clear c29
           have HC39 := am H
           clear H
           go_upto_region 14 with (fail)
           go_cut [60] (fun v60 wc => ∃ (kq : Nat) (x60_38 : Bool) (x1001_38 : Int) (x1002_38 : Int), v60 = .bool x60_38 ∧ Aside0 (spec_l6Draw.j2 kq x3_2 y286 x60_38 s0_0 x1001_38 x1002_38 = some (r1, r2, r3)) ∧ Aside0 (kq ≤ k2) ∧ Aside0 (Kd.R k30 30 wc w.heap.size (fun _ => True) u3 x3_2) ∧ Aside0 (Kd.R Kd.string 9 wc w.heap.size (fun _ => True) (.slice Ao27 y286.length co27) y286) ∧ Aside0 (IsS95 w0 wc g s0_0 x1001_38 x1002_38) ∧ Aside0 (KeepBut w wc g none) ∧ Aside0 (Below w0.heap.size w0 wc))
           case first =>
            have H := HC39.out
            clear HC39
            by_cases c40 : (y286.length : Int) > 0
            ·rw [if_pos c40] at H
             have c40b0 : decide (0 < (y286.length : Int)) = true := decide_eq_true c40
             have c40b1 : decide (0 < y286.length) = true := decide_eq_true (by omega)
             clear c40
             (first | rw [c40b0] | (simp only [i64_w, i32_w]; rw [c40b0]) | skip)
             replace H := Option.bind_eq_some_iff.mp H
             obtain ⟨⟨t307, t308, t309⟩, A410, H⟩ := H
             replace H : (spec_l6Draw.j2 k2 x3_2 y286 t307 s0_0 t308 t309) = some (r1, r2, r3) := H
             have A41 := am A410
             clear A410
             have H' := am H
             clear H
             go_wp2_with (first | (go_at_call 87; (with_reducible refine (spec_l1Once.calls g s0_0 x1001_2 x1002_2 2 t307 t308 t309 w0 _ ?side1 ?side2 A41.out).mono ?_); (case side1 => exact s11_2); (case side2 => exact s11_1); rintro e w42 ⟨rfl, hi, hb, hk⟩; have n0_ := am (Kd.R_mono (Kd.R_keep (IsS95.apart (show IsS95 w0 _ g s0_0 x1001_2 x1002_2 from by repeat (first | (with_reducible first | exact HI0.out | apply IsS95.alloc | apply IsS95.drewN | apply IsS95.drew | apply IsS95.set_1 | apply IsS95.set_2) | exact HI0.out)) u11_2 u11_13) hk (fun _ h => h.2)) (fun _ h => h.1)); have n1_ := am (Kd.R_mono (Kd.R_keep (IsS95.apart (show IsS95 w0 _ g s0_0 x1001_2 x1002_2 from by repeat (first | (with_reducible first | exact HI0.out | apply IsS95.alloc | apply IsS95.drewN | apply IsS95.drew | apply IsS95.set_1 | apply IsS95.set_2) | exact HI0.out)) u11_6 u11_13) hk (fun _ h => h.2)) (fun _ h => h.1)); have n2_ := am (Kd.R_mono (Kd.R_keep (IsS95.apart (show IsS95 w0 _ g s0_0 x1001_2 x1002_2 from by repeat (first | (with_reducible first | exact HI0.out | apply IsS95.alloc | apply IsS95.drewN | apply IsS95.drew | apply IsS95.set_1 | apply IsS95.set_2) | exact HI0.out)) u11_5 u11_13) hk (fun _ h => h.2)) (fun _ h => h.1)); have n3_ := am (Kd.R_mono (Kd.R_keep (IsS95.apart (show IsS95 w0 _ g s0_0 x1001_2 x1002_2 from by repeat (first | (with_reducible first | exact HI0.out | apply IsS95.alloc | apply IsS95.drewN | apply IsS95.drew | apply IsS95.set_1 | apply IsS95.set_2) | exact HI0.out)) u11_11 u11_13) hk (fun _ h => h.2)) (fun _ h => h.1)); have n4_ := am (KeepBut.trans u11_0 hk (.inl rfl)); have n5_ := am (hb); have n6_ := am (hi); clear HO_3 HO_4 HO_7 HO_36 HK HB HI0; have HO_3 := n0_; have HO_4 := n1_; have HO_7 := n2_; have HO_36 := n3_; have HK := n4_; have HB := n5_; have HI0 := n6_; clear n0_ n1_ n2_ n3_ n4_ n5_ n6_; (try clear hb); (try clear hb2); (try clear hk); (try clear hi)))
             go_meet
             case rel => exact ⟨_, (t307), (t308), (t309), u11_8, H', ⟨by have := HK1.out; have := HK2.out; first | omega | exact Nat.le_refl _⟩, ⟨by (with_reducible repeat (first | apply Kd.R_alloc | apply Kd.R_drewN | apply Kd.R_drew)); exact HO_3.out⟩, ⟨by (with_reducible repeat (first | apply Kd.R_alloc | apply Kd.R_drewN | apply Kd.R_drew)); exact Kd.R_mono HO_7.out (fun _ hk => trivial)⟩, ⟨s11_2⟩, ⟨s11_3⟩, ⟨s11_1⟩⟩
            ·rw [if_neg c40] at H
             have c40b0 : decide (0 < (y286.length : Int)) = false := decide_eq_false c40
             have c40b1 : decide (0 < y286.length) = false := decide_eq_false (by omega)
             clear c40
             (first | rw [c40b0] | (simp only [i64_w, i32_w]; rw [c40b0]) | skip)
             have H' := am H
             clear H
             go_wp2
             go_meet
             case rel => exact ⟨_, (false), (x1001_2), (x1002_2), u11_8, H', ⟨by have := HK1.out; have := HK2.out; first | omega | exact Nat.le_refl _⟩, ⟨by (with_reducible repeat (first | apply Kd.R_alloc | apply Kd.R_drewN | apply Kd.R_drew)); exact HO_3.out⟩, ⟨by (with_reducible repeat (first | apply Kd.R_alloc | apply Kd.R_drewN | apply Kd.R_drew)); exact Kd.R_mono HO_7.out (fun _ hk => trivial)⟩, ⟨s11_2⟩, ⟨s11_3⟩, ⟨s11_1⟩⟩
           case rest =>
            clear HC39
            try clear c1
            try clear q1
            try clear c2
            try clear p2
            try clear q2
            try clear hx2
            try clear c3
            try clear c4
            try clear c4b0
            try clear c4b1
            try clear c5
            try clear c5b0
            try clear c5b1
            try clear c6
            try clear p6
            try clear c8
            try clear q12
            try clear c13
            try clear c13b0
            try clear c14
            try clear c14b0
            try clear c15
            try clear c15b0
            try clear c22
            try clear c22b0
            try clear c22b1
            try clear c23
            try clear c23b0
            try clear c23b1
            try clear p27
            try clear q27
            try clear hx27
            try clear p28
            try clear q28
            try clear hx28
            try clear c29
            try clear c29b0
            try clear c30
            try clear c30b0
            try clear c31
            try clear c31b0
            try clear c40
            try clear c40b0
            try clear c40b1
            try clear hx272_0
            try clear hx289_0
            try clear p2
            try clear p27
            try clear p272
            try clear p289
            try clear p6
            try clear q1
            try clear q12
            try clear q2
            try clear q27
            try clear q272
            try clear q28
            try clear q289
            obtain ⟨kq, x60_38, x1001_38, x1002_38, rfl, HA, HJ38, HO_3, HO_7, HI0, HK, HB⟩ := hcut
            cases kq with
            | zero => exact absurd HA.out (by simp [spec_l6Draw.j2])
            | succ kj38 =>
             have H := HA.out
             clear HA
             simp only [spec_l6Draw.j2] at H
             by_cases c43 : x60_38 = true
             ·subst c43
              have H1 : ((spec_l1Str.f s0_0 x1001_38 x1002_38 (([(⟨#[108, 97, 109, 112]⟩ : ByteArray), (⟨#[122]⟩ : ByteArray)] : List ByteArray))).bind fun bt313 => ((spec_l1Str.f s0_0 bt313.2.1 bt313.2.2 y286).bind fun bt316 => ((spec_l2Draw.f s0_0 bt316.2.1 bt316.2.2).bind fun bt319 => ((spec_AddDevice.f kj38 x3_2 bt313.1 3 bt316.1 bt319.1 bt319.2.1 0 0 0).bind fun bt323 => (some (bt323.1, bt319.2.2.1, bt319.2.2.2)))))) = some (r1, r2, r3) := by rw [if_pos rfl] at H; exact H
              clear H
              have H := H1
              clear H1
              obtain ⟨y310, hy310⟩ : ∃ y_ : List ByteArray, y_ = (([(⟨#[108, 97, 109, 112]⟩ : ByteArray), (⟨#[122]⟩ : ByteArray)] : List ByteArray)) := ⟨_, rfl⟩
              replace H : ((spec_l1Str.f s0_0 x1001_38 x1002_38 y310).bind fun bt313 => ((spec_l1Str.f s0_0 bt313.2.1 bt313.2.2 y286).bind fun bt316 => ((spec_l2Draw.f s0_0 bt316.2.1 bt316.2.2).bind fun bt319 => ((spec_AddDevice.f kj38 x3_2 bt313.1 3 bt316.1 bt319.1 bt319.2.1 0 0 0).bind fun bt323 => (some (bt323.1, bt319.2.2.1, bt319.2.2.2)))))) = some (r1, r2, r3) := by first | (rw [hy310]; with_reducible exact H) | (have H2_ := (Option.bind_some _ _).symm.trans H; rw [hy310]; with_reducible exact H2_) | (have H2_ := (Option.bind_some _ _).symm.trans H; with_reducible exact H2_) | with_reducible exact H | (rw [hy310]; exact H) | exact H
              have Ny310 := am hy310
              clear hy310
              replace H := Option.bind_eq_some_iff.mp H
              obtain ⟨⟨t313, t314, t315⟩, A440, H⟩ := H
              replace H : ((spec_l1Str.f s0_0 t314 t315 y286).bind fun bt316 => ((spec_l2Draw.f s0_0 bt316.2.1 bt316.2.2).bind fun bt319 => ((spec_AddDevice.f kj38 x3_2 t313 3 bt316.1 bt319.1 bt319.2.1 0 0 0).bind fun bt323 => (some (bt323.1, bt319.2.2.1, bt319.2.2.2))))) = some (r1, r2, r3) := H
              have A44 := am A440
              clear A440
              replace H := Option.bind_eq_some_iff.mp H
              obtain ⟨⟨t316, t317, t318⟩, A450, H⟩ := H
              replace H : ((spec_l2Draw.f s0_0 t317 t318).bind fun bt319 => ((spec_AddDevice.f kj38 x3_2 t313 3 t316 bt319.1 bt319.2.1 0 0 0).bind fun bt323 => (some (bt323.1, bt319.2.2.1, bt319.2.2.2)))) = some (r1, r2, r3) := H
              have A45 := am A450
              clear A450
              replace H := Option.bind_eq_some_iff.mp H
              obtain ⟨⟨t319, t320, t321, t322⟩, A460, H⟩ := H
              replace H : ((spec_AddDevice.f kj38 x3_2 t313 3 t316 t319 t320 0 0 0).bind fun bt323 => (some (bt323.1, t321, t322))) = some (r1, r2, r3) := H
              have A46 := am A460
              clear A460
              replace H := Option.bind_eq_some_iff.mp H
              obtain ⟨⟨t323, t326⟩, A470, H⟩ := H
              replace H : (some (t323, t321, t322)) = some (r1, r2, r3) := H
              have A47 := am A470
              clear A470
              simp only [Option.some.injEq, Prod.mk.injEq] at H
              obtain ⟨rfl, rfl, rfl⟩ := H
              go_wp2_with (first | ((with_reducible refine gate_dst (N := 64) rfl ?_); refine Kd.R_lit Kd.string _ 9 ?hg (N := 64) ?hd (xs := ([(⟨#[108, 97, 109, 112]⟩ : ByteArray), (⟨#[122]⟩ : ByteArray)] : List ByteArray)) (inner := [.string (⟨#[108, 97, 109, 112]⟩ : ByteArray), .string (⟨#[122]⟩ : ByteArray)]) (ok := fun _ => True) (okp := fun _ => True) ?hr ?hp (fun _ hk => hk) trivial (Below.refl _ _) (Nat.le_refl _) (by simp) ?_; (case hd => rfl); (case hg => rfl); (case hr => exact gq); (case hp => exact (Reps.one (show Kd.M Kd.string _ _ _ (⟨#[108, 97, 109, 112]⟩ : ByteArray) [.string (⟨#[108, 97, 109, 112]⟩ : ByteArray)] from rfl) (Reps.one (show Kd.M Kd.string _ _ _ (⟨#[122]⟩ : ByteArray) [.string (⟨#[122]⟩ : ByteArray)] from rfl) (Reps.none _ _)))); intro v311 w48 ho49 hb hg_ hnew_; clear hg_ hnew_; (first | rw [← Ny310.out] at ho49 | (simp only [Int.reduceToNat] at ho49; rw [← Ny310.out] at ho49)); have n0_ := am (Kd.R_below u11_2 hb); have n1_ := am (Kd.R_elder' u11_5 (Kd.R_base ho49) hb); have n2_ := am (Kd.R_lower (Kd.R_new' ho49 (Kd.R_lt u11_5)) (keep_size (w := w) (g := g) (row := none) u11_0)); have n3_ := am (IsS95.below u11_4 hb); have n4_ := am (KeepBut.trans u11_0 (KeepBut.of_below hb g none) (.inl rfl)); have n5_ := am (below_step u11_3 hb); clear HO_3 HO_7 HI0 HK HB; have HO_3 := n0_; have HO_7 := n1_; have HO312 := n2_; have HI0 := n3_; have HK := n4_; have HB := n5_; clear n0_ n1_ n2_ n3_ n4_ n5_ hb ho49; obtain ⟨Ao50, co50, eo50⟩ := Kd.R_slice HO312.out; subst eo50) | ((with_reducible refine gate_callee (f := 86) rfl ?_); refine goesL_ (some 65) rfl rfl Try.func86 (by kernel_rfl) rfl #[.pointer (some ⟨g, 0, none⟩), .slice Ao50 y310.length co50] rfl u11_1 ?_; (with_reducible refine (spec_l1Str.calls g s0_0 x1001_38 x1002_38 _ _ y310 t313 t314 t315 w0 _ ?side1 ?side2 ?side3 ?side4 ?side5 A44.out).mono ?_); (case side1 => exact s11_2); (case side2 => exact s11_1); (case side3 => repeat (first | exact (Kd.R_reads' HO312.out).2.2 | (with_reducible refine Kd.C_alloc ?_ _) | (with_reducible refine Kd.C_drewN ?_ _) | (with_reducible refine Kd.C_drew ?_))); (case side4 => exact (Kd.R_reads' HO312.out).2.1); (case side5 => exact far_slice (IsS95.own_ne HI0.out HO312.out u11_13)); rintro e w51 ⟨rfl, hi, hb, hk⟩; refine ⟨_, rfl, ?_⟩; have n0_ := am (Kd.R_mono (Kd.R_keep (IsS95.apart (show IsS95 w0 _ g s0_0 x1001_38 x1002_38 from by repeat (first | (with_reducible first | exact HI0.out | apply IsS95.alloc | apply IsS95.drewN | apply IsS95.drew | apply IsS95.set_1 | apply IsS95.set_2) | exact HI0.out)) u11_2 u11_13) hk (fun _ h => h.2)) (fun _ h => h.1)); have n1_ := am (Kd.R_mono (Kd.R_keep (IsS95.apart (show IsS95 w0 _ g s0_0 x1001_38 x1002_38 from by repeat (first | (with_reducible first | exact HI0.out | apply IsS95.alloc | apply IsS95.drewN | apply IsS95.drew | apply IsS95.set_1 | apply IsS95.set_2) | exact HI0.out)) u11_5 u11_13) hk (fun _ h => h.2)) (fun _ h => h.1)); have n2_ := am (Kd.R_mono (Kd.R_keep (IsS95.apart (show IsS95 w0 _ g s0_0 x1001_38 x1002_38 from by repeat (first | (with_reducible first | exact HI0.out | apply IsS95.alloc | apply IsS95.drewN | apply IsS95.drew | apply IsS95.set_1 | apply IsS95.set_2) | exact HI0.out)) u11_12 u11_13) hk (fun _ h => h.2)) (fun _ h => h.1)); have n3_ := am (KeepBut.trans u11_0 hk (.inl rfl)); have n4_ := am (hb); have n5_ := am (hi); clear HO_3 HO_7 HO312 HK HB HI0; have HO_3 := n0_; have HO_7 := n1_; have HO312 := n2_; have HK := n3_; have HB := n4_; have HI0 := n5_; clear n0_ n1_ n2_ n3_ n4_ n5_; (try clear hb); (try clear hb2); (try clear hk); (try clear hi)) | ((with_reducible refine gate_callee (f := 86) rfl ?_); refine goesL_ (some 68) rfl rfl Try.func86 (by kernel_rfl) rfl #[.pointer (some ⟨g, 0, none⟩), .slice Ao27 y286.length co27] rfl u11_1 ?_; (with_reducible refine (spec_l1Str.calls g s0_0 t314 t315 _ _ y286 t316 t317 t318 w0 _ ?side1 ?side2 ?side3 ?side4 ?side5 A45.out).mono ?_); (case side1 => exact s11_2); (case side2 => exact s11_1); (case side3 => repeat (first | exact (Kd.R_reads' HO_7.out).2.2 | (with_reducible refine Kd.C_alloc ?_ _) | (with_reducible refine Kd.C_drewN ?_ _) | (with_reducible refine Kd.C_drew ?_))); (case side4 => exact (Kd.R_reads' HO_7.out).2.1); (case side5 => exact far_slice (IsS95.own_ne HI0.out HO_7.out u11_13)); rintro e w52 ⟨rfl, hi, hb, hk⟩; refine ⟨_, rfl, ?_⟩; have n0_ := am (Kd.R_mono (Kd.R_keep (IsS95.apart (show IsS95 w0 _ g s0_0 t314 t315 from by repeat (first | (with_reducible first | exact HI0.out | apply IsS95.alloc | apply IsS95.drewN | apply IsS95.drew | apply IsS95.set_1 | apply IsS95.set_2) | exact HI0.out)) u11_2 u11_13) hk (fun _ h => h.2)) (fun _ h => h.1)); have n1_ := am (Kd.R_mono (Kd.R_keep (IsS95.apart (show IsS95 w0 _ g s0_0 t314 t315 from by repeat (first | (with_reducible first | exact HI0.out | apply IsS95.alloc | apply IsS95.drewN | apply IsS95.drew | apply IsS95.set_1 | apply IsS95.set_2) | exact HI0.out)) u11_5 u11_13) hk (fun _ h => h.2)) (fun _ h => h.1)); have n2_ := am (Kd.R_mono (Kd.R_keep (IsS95.apart (show IsS95 w0 _ g s0_0 t314 t315 from by repeat (first | (with_reducible first | exact HI0.out | apply IsS95.alloc | apply IsS95.drewN | apply IsS95.drew | apply IsS95.set_1 | apply IsS95.set_2) | exact HI0.out)) u11_12 u11_13) hk (fun _ h => h.2)) (fun _ h => h.1)); have n3_ := am (KeepBut.trans u11_0 hk (.inl rfl)); have n4_ := am (hb); have n5_ := am (hi); clear HO_3 HO_7 HO312 HK HB HI0; have HO_3 := n0_; have HO_7 := n1_; have HO312 := n2_; have HK := n3_; have HB := n4_; have HI0 := n5_; clear n0_ n1_ n2_ n3_ n4_ n5_; (try clear hb); (try clear hb2); (try clear hk); (try clear hi)) | ((with_reducible refine gate_callee (f := 88) rfl ?_); refine goesL_ (some 70) rfl rfl Try.func88 (by kernel_rfl) rfl #[.pointer (some ⟨g, 0, none⟩)] rfl u11_1 ?_; (with_reducible refine (spec_l2Draw.calls g s0_0 t317 t318 t319 t320 t321 t322 w0 _ ?side1 ?side2 A46.out).mono ?_); (case side1 => exact s11_2); (case side2 => exact s11_1); rintro e w53 ⟨rfl, hi, hb, hk⟩; refine ⟨_, rfl, ?_⟩; have n0_ := am (Kd.R_mono (Kd.R_keep (IsS95.apart (show IsS95 w0 _ g s0_0 t317 t318 from by repeat (first | (with_reducible first | exact HI0.out | apply IsS95.alloc | apply IsS95.drewN | apply IsS95.drew | apply IsS95.set_1 | apply IsS95.set_2) | exact HI0.out)) u11_2 u11_13) hk (fun _ h => h.2)) (fun _ h => h.1)); have n1_ := am (Kd.R_mono (Kd.R_keep (IsS95.apart (show IsS95 w0 _ g s0_0 t317 t318 from by repeat (first | (with_reducible first | exact HI0.out | apply IsS95.alloc | apply IsS95.drewN | apply IsS95.drew | apply IsS95.set_1 | apply IsS95.set_2) | exact HI0.out)) u11_5 u11_13) hk (fun _ h => h.2)) (fun _ h => h.1)); have n2_ := am (Kd.R_mono (Kd.R_keep (IsS95.apart (show IsS95 w0 _ g s0_0 t317 t318 from by repeat (first | (with_reducible first | exact HI0.out | apply IsS95.alloc | apply IsS95.drewN | apply IsS95.drew | apply IsS95.set_1 | apply IsS95.set_2) | exact HI0.out)) u11_12 u11_13) hk (fun _ h => h.2)) (fun _ h => h.1)); have n3_ := am (KeepBut.trans u11_0 hk (.inl rfl)); have n4_ := am (hb); have n5_ := am (hi); clear HO_3 HO_7 HO312 HK HB HI0; have HO_3 := n0_; have HO_7 := n1_; have HO312 := n2_; have HK := n3_; have HB := n4_; have HI0 := n5_; clear n0_ n1_ n2_ n3_ n4_ n5_; (try clear hb); (try clear hb2); (try clear hk); (try clear hi); obtain ⟨Ao54, co54, eo54⟩ := Kd.R_slice HO_3.out; subst eo54) | ((with_reducible refine gate_callee (f := 47) rfl ?_); refine goesL_ (some 72) rfl rfl Try.func47 (by kernel_rfl) rfl #[.slice Ao54 x3_2.length co54, .agg #[.string t313, .int .i64 3, .string t316, .int .i64 t319, .int .i64 t320, .int .i64 0, .int .i64 0, .int .i64 0]] rfl u11_1 ?_; (with_reducible refine (spec_AddDevice.calls kj38 _ _ x3_2 t313 3 t316 t319 t320 0 0 0 t323 t326 _ ?side1 ?side2 A47.out).mono ?_); (case side1 => exact y11_1); (case side2 => exact (Kd.R_reads' HO_3.out).2.1); rintro e w55 ⟨v324, rfl, ho0, hb⟩; refine ⟨_, rfl, ?_⟩; have n0_ := am (Kd.R_elder' u11_2 (Kd.R_base ho0) hb); have n1_ := am (Kd.R_below u11_5 hb); have n2_ := am (Kd.R_below u11_12 hb); have n3_ := am (Kd.R_lower (Kd.R_new' ho0 (Kd.R_lt u11_2)) (keep_size (w := w) (g := g) (row := none) u11_0)); have n4_ := am (IsS95.below u11_4 hb); have n5_ := am (KeepBut.trans u11_0 (KeepBut.of_below hb g none) (.inl rfl)); have n6_ := am (below_step u11_3 hb); clear HO_3 HO_7 HO312 HI0 HK HB; have HO_3 := n0_; have HO_7 := n1_; have HO312 := n2_; have HO325 := n3_; have HI0 := n4_; have HK := n5_; have HB := n6_; clear n0_ n1_ n2_ n3_ n4_ n5_ n6_; (try clear hb); (try clear hb2); (try clear hk); (try clear hi); (try clear ho0)))
              go_ret
              exact ⟨_, by first | rfl | (simp [errW_none, errW_some] <;> rfl) | (simp only [← hji3]; first | rfl | (simp [errW_none, errW_some] <;> rfl)) | (simp [*, errW_none, errW_some] <;> rfl), by (with_reducible repeat (first | apply Kd.R_alloc | apply Kd.R_drewN | apply Kd.R_drew)); exact Kd.R_mono HO325.out (fun _ hk => trivial), s11_2, s11_1, s11_3⟩
             ·replace c43 := Bool.eq_false_iff.mpr c43
              subst c43
              have H1 : (some (x3_2, x1001_38, x1002_38)) = some (r1, r2, r3) := by rw [if_neg (show ¬ (false = true) by decide)] at H; exact H
              clear H
              have H := H1
              clear H1
              simp only [Option.some.injEq, Prod.mk.injEq] at H
              obtain ⟨rfl, rfl, rfl⟩ := H
              go_wp2
              go_ret
              exact ⟨_, by first | rfl | (simp [errW_none, errW_some] <;> rfl) | (simp only [← hji3]; first | rfl | (simp [errW_none, errW_some] <;> rfl)) | (simp [*, errW_none, errW_some] <;> rfl), by (with_reducible repeat (first | apply Kd.R_alloc | apply Kd.R_drewN | apply Kd.R_drew)); exact HO_3.out, s11_2, s11_1, s11_3⟩
       ·rw [if_neg c23] at H
        exact absurd H (by simp)
      ·rw [if_neg c22] at H
       exact absurd H (by simp)
  ·rw [if_neg c5] at H
   exact absurd H (by simp)
 ·rw [if_neg c4] at H
  exact absurd H (by simp)

/-! ### spec_l1New: function 67 -/
def spec_l1New.l0 : Nat → List Int → Int → Int → Option (List Int × Int × Int)
 | 0, _, _, _ => none
 | k + 1, x0, x3, x4 => if x4 < (x0.length : Int) then (if x4 < 4000 then (if 0 ≤ x4 then (spec_l1New.l0 k x0 (Go.bits .and .i64 (wrap64 ((wrap64 ((wrap64 (x3 * 167)) + (wrap64 (rd x0 x4)))) + 29)) 1073741823) (wrap64 (x4 + 1))) else (none)) else (some (x0, 0, x3))) else (some (x0, 0, x3))
def spec_l1New.f (k : Nat) (l0 : List Int) : Option (List Int × Int × Int) := spec_l1New.l0 k l0 (wrap64 (620033 + (wrap64 (3 * (l0.length : Int))))) 0
theorem spec_l1New.mono_l : ∀ k, (∀ y0 y1 y2, LeO (spec_l1New.l0 k y0 y1 y2) (spec_l1New.l0 (k + 1) y0 y1 y2))
 | 0 => fun _ _ _ r h => by simp [spec_l1New.l0] at h
 | k + 1 => by
  have ih0 := spec_l1New.mono_l k
  ·intro y0 y1 y2
   unfold spec_l1New.l0
   repeat' first
   | (with_reducible exact ih0 _ _ _)
   | (with_reducible exact LeO.refl _)
   | (with_reducible exact LeO.none _)
   | (with_reducible refine LeO.ite ?_ ?_)
   | (with_reducible refine LeO.bind ?_ (fun _ => ?_))
theorem spec_l1New.mono : ∀ a0 k, LeO (spec_l1New.f k a0) (spec_l1New.f (k + 1) a0) := by
 intro a0 k
 have ih0 := spec_l1New.mono_l k
 unfold spec_l1New.f
 repeat' first
   | (with_reducible exact ih0 _ _ _)
   | (with_reducible exact LeO.refl _)
   | (with_reducible exact LeO.none _)
   | (with_reducible refine LeO.ite ?_ ?_)
   | (with_reducible refine LeO.bind ?_ (fun _ => ?_))
set_option maxHeartbeats 8000000 in
set_option maxRecDepth 100000 in
theorem spec_l1New.calls (k : Nat) (A0 : Option Addr) (c0 : Nat) (l0 : List Int) (r1 : List Int) (r2 : Int) (r3 : Int) (w0 w : World) (hB : Below w0.heap.size w0 w) (hr0 : Kd.C (Kd.int .u8) w0 A0 l0.length l0) (hc0 : l0.length ≤ c0) (h : spec_l1New.f k l0 = some (r1, r2, r3)) :
  Calls Try.prog 67 #[.slice A0 l0.length c0] w fun e w' => ∃ g_ : Nat, e = .returned (.pointer (some ⟨g_, 0, none⟩)) ∧ IsS95 w0 w' g_ r1 r2 r3 ∧ Below w0.heap.size w0 w' ∧ Below w.heap.size w w' := by
 have hu95 := Try.underlying95
 have HR0 := am hr0
 have HC0 := am hc0
 clear hr0 hc0
 have HBW := am (Below.refl w.heap.size w)
 have HW0 := am hB.size
 have HB := am hB
 clear hB
 have H : (spec_l1New.l0 k l0 (wrap64 (620033 + (wrap64 (3 * (l0.length : Int))))) 0) = some (r1, r2, r3) := h
 clear h
 have H' := am H
 clear H
 go_enter Try.func67, Try.ntmps67
 go_wp2
 go_loopg [3, 4] k (fun kq v3 v4 w' => ∃ (x3_1 : Int) (x4_1 : Int), v3 = .int .i64 x3_1 ∧ v4 = .int .i64 x4_1 ∧ Aside0 (spec_l1New.l0 kq l0 x3_1 x4_1 = some (r1, r2, r3)) ∧ Aside0 (kq ≤ k) ∧ Aside0 (Below w0.heap.size w0 w') ∧ Aside0 (Below w.heap.size w w'))
 case atStart => exact ⟨(wrap64 (620033 + (wrap64 (3 * (l0.length : Int))))), (0), u11_8, u11_8, H', ⟨Nat.le_refl _⟩, ⟨s11_5⟩, ⟨s11_4⟩⟩
 case round =>
  clear H'
  obtain ⟨x3_1, x4_1, rfl, rfl, HA, HK1, HB, HBW⟩ := hrel
  cases gk with
  | zero => exact absurd HA.out (by simp [spec_l1New.l0])
  | succ k1 =>
   have H := HA.out
   clear HA
   simp only [spec_l1New.l0] at H
   by_cases c2 : x4_1 < (l0.length : Int)
   ·rw [if_pos c2] at H
    have c2b0 : decide (x4_1 < (l0.length : Int)) = true := decide_eq_true c2
    clear c2
    by_cases c3 : x4_1 < 4000
    ·rw [if_pos c3] at H
     have c3b0 : decide (x4_1 < 4000) = true := decide_eq_true c3
     clear c3
     by_cases c4 : 0 ≤ x4_1
     ·rw [if_pos c4] at H
      have c4b0 : decide (0 ≤ x4_1) = true := decide_eq_true c4
      clear c4
      have H' := am H
      clear H
      have p327 : 0 ≤ (x4_1 : Int) := od (by assumption)
      have q327 : x4_1 < (l0.length : Int) := od (by assumption)
      obtain ⟨ad327, e327, hx327_0⟩ := Kd.at_int HR0.out x4_1 p327 q327
      cases e327
      replace hx327_0 := pw_cell_below HB.out hx327_0
      replace p327 := eq_true p327
      replace q327 := eq_true q327
      go_wp2
      go_roundg k1
      case measure => have := HK1.out; omega
      case rel => exact ⟨(Go.bits .and .i64 (wrap64 ((wrap64 ((wrap64 (x3_1 * 167)) + (wrap64 (rd l0 x4_1)))) + 29)) 1073741823), (wrap64 (x4_1 + 1)), u11_8, u11_8, H', ⟨by have := HK1.out; omega⟩, ⟨s11_5⟩, ⟨s11_4⟩⟩
     ·rw [if_neg c4] at H
      exact absurd H (by simp)
    ·rw [if_neg c3] at H
     have c3b0 : decide (x4_1 < 4000) = false := decide_eq_false c3
     clear c3
     simp only [Option.some.injEq, Prod.mk.injEq] at H
     obtain ⟨rfl, rfl, rfl⟩ := H
     go_wp2_with (first | ((with_reducible refine gate_dst (N := 32) rfl ?_); refine box_event ?hg (N := 32) ?hd (cs := #[.slice A0 l0.length c0, .int .i64 0, .int .i64 x3_1]) (t := 95) ?hr ?_; (case hd => rfl); (case hg => rfl); (case hr => exact gq); intro gb328 hg w5 hbox hb; have n0_ := am (below_step HBW.out hb); have n1_ := am (below_step u11_7 hb); have n2_ := am (hbox); have n3_ := bsw w hg (below_size u11_10); have n4_ := am ((Nat.le_trans HW0.out (by rw [hg]; exact (below_size u11_10) : w.heap.size ≤ gb328) : w0.heap.size ≤ gb328)); clear HBW HB; have HBW := n0_; have HB := n1_; have BK328 := n2_; have GW328 := n3_; have GE328 := n4_; clear n0_ n1_ n2_ n3_ n4_ hb hbox hg))
     go_ret
     exact ⟨_, rfl, (show IsS95 w0 _ gb328 l0 0 x3_1 from ⟨_, _, by (with_reducible repeat (first | refine blk_drewN ?_ _ | refine blk_drew ?_ | refine blk_alloc ?_ _)); exact BK328.out, GE328.out, HR0.out⟩), by repeat (first | (with_reducible first | exact HB.out | apply below_alloc | apply pw_below_drewN | apply below_drew1 | refine below_set ?_ GE328.out) | exact HB.out), by repeat (first | (with_reducible first | exact HBW.out | apply below_alloc | apply pw_below_drewN | apply below_drew1 | refine below_set ?_ GW328.out) | exact HBW.out)⟩
   ·rw [if_neg c2] at H
    have c2b0 : decide (x4_1 < (l0.length : Int)) = false := decide_eq_false c2
    clear c2
    simp only [Option.some.injEq, Prod.mk.injEq] at H
    obtain ⟨rfl, rfl, rfl⟩ := H
    go_wp2_with (first | ((with_reducible refine gate_dst (N := 32) rfl ?_); refine box_event ?hg (N := 32) ?hd (cs := #[.slice A0 l0.length c0, .int .i64 0, .int .i64 x3_1]) (t := 95) ?hr ?_; (case hd => rfl); (case hg => rfl); (case hr => exact gq); intro gb329 hg w6 hbox hb; have n0_ := am (below_step HBW.out hb); have n1_ := am (below_step u11_7 hb); have n2_ := am (hbox); have n3_ := bsw w hg (below_size u11_10); have n4_ := am ((Nat.le_trans HW0.out (by rw [hg]; exact (below_size u11_10) : w.heap.size ≤ gb329) : w0.heap.size ≤ gb329)); clear HBW HB; have HBW := n0_; have HB := n1_; have BK329 := n2_; have GW329 := n3_; have GE329 := n4_; clear n0_ n1_ n2_ n3_ n4_ hb hbox hg))
    go_ret
    exact ⟨_, rfl, (show IsS95 w0 _ gb329 l0 0 x3_1 from ⟨_, _, by (with_reducible repeat (first | refine blk_drewN ?_ _ | refine blk_drew ?_ | refine blk_alloc ?_ _)); exact BK329.out, GE329.out, HR0.out⟩), by repeat (first | (with_reducible first | exact HB.out | apply below_alloc | apply pw_below_drewN | apply below_drew1 | refine below_set ?_ GE329.out) | exact HB.out), by repeat (first | (with_reducible first | exact HBW.out | apply below_alloc | apply pw_below_drewN | apply below_drew1 | refine below_set ?_ GW329.out) | exact HBW.out)⟩

/-! ### spec_DrawRig: function 29 -/
def spec_DrawRig.f (k : Nat) (l0 : List Int) : Option ((List (S30))) := (spec_l1New.f k l0).bind fun bt330 => ((spec_l6Draw.f k bt330.1 bt330.2.1 bt330.2.2).bind fun bt334 => (some bt334.1))
theorem spec_DrawRig.mono : ∀ a0 k, LeO (spec_DrawRig.f k a0) (spec_DrawRig.f (k + 1) a0) := by
 intro a0 k
 unfold spec_DrawRig.f
 repeat' first
   | (with_reducible exact spec_l1New.mono _ _)
   | (with_reducible exact spec_l6Draw.mono _ _ _ _)
   | (with_reducible exact LeO.refl _)
   | (with_reducible exact LeO.none _)
   | (with_reducible refine LeO.ite ?_ ?_)
   | (with_reducible refine LeO.bind ?_ (fun _ => ?_))
set_option maxHeartbeats 8000000 in
set_option maxRecDepth 100000 in
theorem spec_DrawRig.calls (k : Nat) (A0 : Option Addr) (c0 : Nat) (l0 : List Int) (r : List (S30)) (w : World) (hr0 : Kd.C (Kd.int .u8) w A0 l0.length l0) (hc0 : l0.length ≤ c0) (h : spec_DrawRig.f k l0 = some r) :
  Calls Try.prog 29 #[.slice A0 l0.length c0] w fun e w' => ∃ v0_ : Value, e = .returned (v0_) ∧ Kd.R k30 30 w' w.heap.size (fun _ => True) v0_ r ∧ Below w.heap.size w w' := by
 have HR0 := am hr0
 have HC0 := am hc0
 clear hr0 hc0
 have HB := am (Below.refl w.heap.size w)
 have H : ((spec_l1New.f k l0).bind fun bt330 => ((spec_l6Draw.f k bt330.1 bt330.2.1 bt330.2.2).bind fun bt334 => (some bt334.1))) = some r := h
 clear h
 replace H := Option.bind_eq_some_iff.mp H
 obtain ⟨⟨t330, t331, t332⟩, A20, H⟩ := H
 replace H : ((spec_l6Draw.f k t330 t331 t332).bind fun bt334 => (some bt334.1)) = some r := H
 have A2 := am A20
 clear A20
 replace H := Option.bind_eq_some_iff.mp H
 obtain ⟨⟨t334, t337, t338⟩, A30, H⟩ := H
 replace H : (some t334) = some r := H
 have A3 := am A30
 clear A30
 obtain rfl := Option.some.inj H
 go_enter Try.func29, Try.ntmps29
 go_wp2_with (first | ((with_reducible refine gate_callee (f := 67) rfl ?_); refine goesL_ (some 4) rfl rfl Try.func67 (by kernel_rfl) rfl #[.slice A0 l0.length c0] rfl u11_1 ?_; (with_reducible refine (spec_l1New.calls k _ _ l0 t330 t331 t332 w _ ?side1 ?side2 ?side3 A2.out).mono ?_); (case side1 => exact s11_5); (case side2 => exact HR0.out); (case side3 => exact HC0.out); rintro e w4 ⟨g333, rfl, hi, hb, hb2⟩; refine ⟨_, rfl, ?_⟩; have n0_ := am (hb); have n1_ := am (hi); clear HB; have HB := n0_; have HI333 := n1_; clear n0_ n1_; (try clear hb); (try clear hb2); (try clear hk); (try clear hi)) | ((with_reducible refine gate_callee (f := 66) rfl ?_); refine goesL_ (some 5) rfl rfl Try.func66 (by kernel_rfl) rfl #[.pointer (some ⟨g333, 0, none⟩)] rfl u11_1 ?_; (with_reducible refine (spec_l6Draw.calls k g333 t330 t331 t332 t334 t337 t338 w _ ?side1 ?side2 A3.out).mono ?_); (case side1 => repeat (first | (with_reducible first | exact HI333.out | apply IsS95.alloc | apply IsS95.drewN | apply IsS95.drew | apply IsS95.set_1 | apply IsS95.set_2) | exact HI333.out)); (case side2 => exact s11_0); rintro e w5 ⟨v335, rfl, ho0, hi, hb, hk⟩; refine ⟨_, rfl, ?_⟩; have n0_ := am (Kd.R_lower ho0 (below_size (by repeat (first | (with_reducible first | exact HB.out | apply below_alloc | apply pw_below_drewN | apply below_drew1 | refine below_set ?_ (IsS95.ge HI333.out)) | exact HB.out)))); have n1_ := am (hb); have n2_ := am (hi); clear HB HI333; have HO336 := n0_; have HB := n1_; have HI333 := n2_; clear n0_ n1_ n2_; (try clear hb); (try clear hb2); (try clear hk); (try clear hi); (try clear ho0)))
 go_ret
 exact ⟨_, by first | rfl | (simp [*] <;> rfl), by (with_reducible repeat (first | apply Kd.R_alloc | apply Kd.R_drewN | apply Kd.R_drew)); exact HO336.out, s11_0⟩

/-! ### impl_PumpOf: function 30 -/
mutual
def impl_PumpOf.j0 : Nat → List (S30) → Int → Bool → Option (ByteArray)
 | 0, _, _, _ => none
 | k + 1, x0, x5, x15 => if x15 = true then (some (⟨#[]⟩ : ByteArray)) else (impl_PumpOf.l0 k x0 x5)
def impl_PumpOf.l0 : Nat → List (S30) → Int → Option (ByteArray)
 | 0, _, _ => none
 | k + 1, x0, x5 => if 0 ≤ x5 then (if x5 < (x0.length : Int) then (if ((rd_T30 x0 x5).f2).toList = ([] : List UInt8) then (some ((rd_T30 x0 x5).f0)) else ((impl_FindDevice.f k x0 ((rd_T30 x0 x5).f2)).bind fun t344 => (impl_PumpOf.l0 k x0 t344))) else (none)) else (none)
end
def impl_PumpOf.f (k : Nat) (l0 : List (S30)) (a1 : ByteArray) : Option (ByteArray) := (impl_FindDevice.f k l0 a1).bind fun t339 => ((impl_IsRig.f k l0).bind fun t340 => (if t340 = true then (impl_PumpOf.j0 k l0 t339 (decide (t339 < 0))) else (impl_PumpOf.j0 k l0 t339 true)))
theorem impl_PumpOf.mono_l : ∀ k, (∀ y0 y1 y2, LeO (impl_PumpOf.j0 k y0 y1 y2) (impl_PumpOf.j0 (k + 1) y0 y1 y2)) ∧ (∀ y0 y1, LeO (impl_PumpOf.l0 k y0 y1) (impl_PumpOf.l0 (k + 1) y0 y1))
 | 0 => ⟨fun _ _ _ r h => by simp [impl_PumpOf.j0] at h, fun _ _ r h => by simp [impl_PumpOf.l0] at h⟩
 | k + 1 => by
  obtain ⟨ih0, ih1⟩ := impl_PumpOf.mono_l k
  refine ⟨?_, ?_⟩
  ·intro y0 y1 y2
   unfold impl_PumpOf.j0
   repeat' first
   | (with_reducible exact ih0 _ _ _)
   | (with_reducible exact ih1 _ _)
   | (with_reducible exact impl_FindDevice.mono _ _ _)
   | (with_reducible exact impl_IsRig.mono _ _)
   | (with_reducible exact LeO.refl _)
   | (with_reducible exact LeO.none _)
   | (with_reducible refine LeO.ite ?_ ?_)
   | (with_reducible refine LeO.bind ?_ (fun _ => ?_))
  ·intro y0 y1
   unfold impl_PumpOf.l0
   repeat' first
   | (with_reducible exact ih0 _ _ _)
   | (with_reducible exact ih1 _ _)
   | (with_reducible exact impl_FindDevice.mono _ _ _)
   | (with_reducible exact impl_IsRig.mono _ _)
   | (with_reducible exact LeO.refl _)
   | (with_reducible exact LeO.none _)
   | (with_reducible refine LeO.ite ?_ ?_)
   | (with_reducible refine LeO.bind ?_ (fun _ => ?_))
theorem impl_PumpOf.mono : ∀ a0 a1 k, LeO (impl_PumpOf.f k a0 a1) (impl_PumpOf.f (k + 1) a0 a1) := by
 intro a0 a1 k
 obtain ⟨ih0, ih1⟩ := impl_PumpOf.mono_l k
 unfold impl_PumpOf.f
 repeat' first
   | (with_reducible exact ih0 _ _ _)
   | (with_reducible exact ih1 _ _)
   | (with_reducible exact impl_FindDevice.mono _ _ _)
   | (with_reducible exact impl_IsRig.mono _ _)
   | (with_reducible exact LeO.refl _)
   | (with_reducible exact LeO.none _)
   | (with_reducible refine LeO.ite ?_ ?_)
   | (with_reducible refine LeO.bind ?_ (fun _ => ?_))
set_option maxHeartbeats 8000000 in
set_option maxRecDepth 100000 in
theorem impl_PumpOf.calls (k : Nat) (A0 : Option Addr) (c0 : Nat) (l0 : List (S30)) (a1 : ByteArray) (r : ByteArray) (w : World) (hr0 : Kd.C k30 w A0 l0.length l0) (hc0 : l0.length ≤ c0) (h : impl_PumpOf.f k l0 a1 = some r) :
  Calls Try.prog 30 #[.slice A0 l0.length c0, .string a1] w fun e w' => e = .returned (.string r) ∧ Below w.heap.size w w' := by
 have HR0 := am hr0
 have HC0 := am hc0
 clear hr0 hc0
 have HB := am (Below.refl w.heap.size w)
 have H : ((impl_FindDevice.f k l0 a1).bind fun t339 => ((impl_IsRig.f k l0).bind fun t340 => (if t340 = true then (impl_PumpOf.j0 k l0 t339 (decide (t339 < 0))) else (impl_PumpOf.j0 k l0 t339 true)))) = some r := h
 clear h
 replace H := Option.bind_eq_some_iff.mp H
 obtain ⟨t339, A30, H⟩ := H
 replace H : ((impl_IsRig.f k l0).bind fun t340 => (if t340 = true then (impl_PumpOf.j0 k l0 t339 (decide (t339 < 0))) else (impl_PumpOf.j0 k l0 t339 true))) = some r := H
 have A3 := am A30
 clear A30
 have HC4 := am H
 clear H
 go_enter Try.func30, Try.ntmps30
 go_upto_region 2 with (first | ((with_reducible refine gate_callee (f := 22) rfl ?_); refine goesL_ (some 8) rfl rfl Try.func22 (by kernel_rfl) rfl #[.slice A0 l0.length c0, .string a1] rfl u11_1 ?_; (with_reducible refine (impl_FindDevice.calls k _ _ l0 a1 t339 _ ?side1 ?side2 A3.out).mono ?_); (case side1 => repeat (first | exact HR0.out | (with_reducible refine Kd.C_alloc ?_ _) | (with_reducible refine Kd.C_drewN ?_ _) | (with_reducible refine Kd.C_drew ?_))); (case side2 => exact HC0.out); rintro e w5 ⟨rfl, hb⟩; refine ⟨_, rfl, ?_⟩; have n0_ := am (below_step u11_7 hb); clear HB; have HB := n0_; clear n0_; (try clear hb); (try clear hb2); (try clear hk); (try clear hi)))
 (try simp only [Act.put, List.setIfInBounds_toArray, List.set_cons_zero, List.set_cons_succ])
 go_cut [15] (fun v15 wc => ∃ (kq : Nat) (x15_3 : Bool), v15 = .bool x15_3 ∧ Aside0 (impl_PumpOf.j0 kq l0 t339 x15_3 = some r) ∧ Aside0 (kq ≤ k) ∧ Aside0 (Below w.heap.size w wc))
 case first =>
  have H := HC4.out
  clear HC4
  replace H := Option.bind_eq_some_iff.mp H
  obtain ⟨t340, A60, H⟩ := H
  replace H : (if t340 = true then (impl_PumpOf.j0 k l0 t339 (decide (t339 < 0))) else (impl_PumpOf.j0 k l0 t339 true)) = some r := H
  have A6 := am A60
  clear A60
  by_cases c7 : t340 = true
  ·subst c7
   have H1 : (impl_PumpOf.j0 k l0 t339 (decide (t339 < 0))) = some r := by rw [if_pos rfl] at H; exact H
   clear H
   have H := H1
   clear H1
   have H' := am H
   clear H
   go_wp2_with (first | ((with_reducible refine gate_callee (f := 25) rfl ?_); refine goesL_ (some 10) rfl rfl Try.func25 (by kernel_rfl) rfl #[.slice A0 l0.length c0] rfl u11_1 ?_; (with_reducible refine (impl_IsRig.calls k _ _ l0 true _ ?side1 ?side2 A6.out).mono ?_); (case side1 => exact y11_0); (case side2 => exact HC0.out); rintro e w8 ⟨rfl, hb⟩; refine ⟨_, rfl, ?_⟩; have n0_ := am (below_step u11_7 hb); clear HB; have HB := n0_; clear n0_; (try clear hb); (try clear hb2); (try clear hk); (try clear hi)))
   go_meet
   case rel => exact ⟨_, (decide (t339 < 0)), u11_8, H', ⟨by first | omega | exact Nat.le_refl _⟩, ⟨s11_5⟩⟩
  ·replace c7 := Bool.eq_false_iff.mpr c7
   subst c7
   have H1 : (impl_PumpOf.j0 k l0 t339 true) = some r := by rw [if_neg (show ¬ (false = true) by decide)] at H; exact H
   clear H
   have H := H1
   clear H1
   have H' := am H
   clear H
   go_wp2_with (first | ((with_reducible refine gate_callee (f := 25) rfl ?_); refine goesL_ (some 10) rfl rfl Try.func25 (by kernel_rfl) rfl #[.slice A0 l0.length c0] rfl u11_1 ?_; (with_reducible refine (impl_IsRig.calls k _ _ l0 false _ ?side1 ?side2 A6.out).mono ?_); (case side1 => exact y11_0); (case side2 => exact HC0.out); rintro e w9 ⟨rfl, hb⟩; refine ⟨_, rfl, ?_⟩; have n0_ := am (below_step u11_7 hb); clear HB; have HB := n0_; clear n0_; (try clear hb); (try clear hb2); (try clear hk); (try clear hi)))
   go_meet
   case rel => exact ⟨_, (true), u11_8, H', ⟨by first | omega | exact Nat.le_refl _⟩, ⟨s11_5⟩⟩
 case rest =>
  clear HC4
  try clear c2
  try clear p2
  try clear c3
  try clear c7
  obtain ⟨kq, x15_3, rfl, HA, HJ3, HB⟩ := hcut
  cases kq with
  | zero => exact absurd HA.out (by simp [impl_PumpOf.j0])
  | succ kj3 =>
   have H := HA.out
   clear HA
   simp only [impl_PumpOf.j0] at H
   by_cases c10 : x15_3 = true
   ·subst c10
    have H1 : (some (⟨#[]⟩ : ByteArray)) = some r := by rw [if_pos rfl] at H; exact H
    clear H
    have H := H1
    clear H1
    obtain rfl := Option.some.inj H
    go_wp2
    go_ret
    exact ⟨by first | rfl | (simp [*] <;> rfl), s11_5⟩
   ·replace c10 := Bool.eq_false_iff.mpr c10
    subst c10
    have H1 : (impl_PumpOf.l0 kj3 l0 t339) = some r := by rw [if_neg (show ¬ (false = true) by decide)] at H; exact H
    clear H
    have H := H1
    clear H1
    have H' := am H
    clear H
    go_wp2
    go_loopg [5] kj3 (fun kq v5 w' => ∃ (x5_2 : Int), v5 = .int .i64 x5_2 ∧ Aside0 (impl_PumpOf.l0 kq l0 x5_2 = some r) ∧ Aside0 (kq ≤ kj3) ∧ Aside0 (Below w.heap.size w w'))
    case atStart => exact ⟨(t339), u11_8, H', ⟨Nat.le_refl _⟩, ⟨s11_5⟩⟩
    case round =>
     clear H'
     try clear c1
     try clear c2
     try clear p2
     try clear c3
     try clear c7
     try clear c10
     try clear p2
     obtain ⟨x5_2, rfl, HA, HK2, HB⟩ := hrel
     cases gk with
     | zero => exact absurd HA.out (by simp [impl_PumpOf.l0])
     | succ k2 =>
      have H := HA.out
      clear HA
      simp only [impl_PumpOf.l0] at H
      by_cases c11 : 0 ≤ x5_2
      ·rw [if_pos c11] at H
       have c11b0 : decide (0 ≤ x5_2) = true := decide_eq_true c11
       clear c11
       by_cases c12 : x5_2 < (l0.length : Int)
       ·rw [if_pos c12] at H
        have c12b0 : decide (x5_2 < (l0.length : Int)) = true := decide_eq_true c12
        clear c12
        by_cases c13 : ((rd_T30 l0 x5_2).f2).toList = ([] : List UInt8)
        ·rw [if_pos c13] at H
         have c13b0 : (((rd_T30 l0 x5_2).f2).toList == ([] : List UInt8)) = true := beq_iff_eq.mpr c13
         have c13b1 : (((rd_T30 l0 x5_2).f2).toList != ([] : List UInt8)) = false := bne_eq_false_iff_eq.mpr c13
         clear c13
         obtain rfl := Option.some.inj H
         have p341 : 0 ≤ (x5_2 : Int) := od (by assumption)
         have q341 : x5_2 < (l0.length : Int) := od (by assumption)
         obtain ⟨ad341, e341, hx341_0, hx341_1, hx341_2, hx341_3, hx341_4, hx341_5, hx341_6, hx341_7⟩ := at_T30 (Kd.C_below HR0.out HB.out) x5_2 p341 q341
         cases e341
         replace p341 := eq_true p341
         replace q341 := eq_true q341
         have p342 : 0 ≤ (x5_2 : Int) := od (by assumption)
         have q342 : x5_2 < (l0.length : Int) := od (by assumption)
         obtain ⟨ad342, e342, hx342_0, hx342_1, hx342_2, hx342_3, hx342_4, hx342_5, hx342_6, hx342_7⟩ := at_T30 HR0.out x5_2 p342 q342
         obtain rfl : ad341 = ad342 := (by injection e342)
         replace hx342_0 := bc HB.out hx342_0
         replace hx342_1 := bc HB.out hx342_1
         replace hx342_2 := bc HB.out hx342_2
         replace hx342_3 := bc HB.out hx342_3
         replace hx342_4 := bc HB.out hx342_4
         replace hx342_5 := bc HB.out hx342_5
         replace hx342_6 := bc HB.out hx342_6
         replace hx342_7 := bc HB.out hx342_7
         replace p342 := eq_true p342
         replace q342 := eq_true q342
         go_wp2
         go_ret
         exact ⟨by first | rfl | (simp [*] <;> rfl), s11_5⟩
        ·rw [if_neg c13] at H
         have c13b0 : (((rd_T30 l0 x5_2).f2).toList == ([] : List UInt8)) = false := beq_eq_false_iff_ne.mpr c13
         have c13b1 : (((rd_T30 l0 x5_2).f2).toList != ([] : List UInt8)) = true := bne_iff_ne.mpr c13
         replace H := Option.bind_eq_some_iff.mp H
         obtain ⟨t344, A140, H⟩ := H
         replace H : (impl_PumpOf.l0 k2 l0 t344) = some r := H
         have A14 := am A140
         clear A140
         have H' := am H
         clear H
         have p341 : 0 ≤ (x5_2 : Int) := od (by assumption)
         have q341 : x5_2 < (l0.length : Int) := od (by assumption)
         obtain ⟨ad341, e341, hx341_0, hx341_1, hx341_2, hx341_3, hx341_4, hx341_5, hx341_6, hx341_7⟩ := at_T30 (Kd.C_below HR0.out HB.out) x5_2 p341 q341
         cases e341
         replace p341 := eq_true p341
         replace q341 := eq_true q341
         have p343 : 0 ≤ (x5_2 : Int) := od (by assumption)
         have q343 : x5_2 < (l0.length : Int) := od (by assumption)
         obtain ⟨ad343, e343, hx343_0, hx343_1, hx343_2, hx343_3, hx343_4, hx343_5, hx343_6, hx343_7⟩ := at_T30 HR0.out x5_2 p343 q343
         obtain rfl : ad341 = ad343 := (by injection e343)
         replace hx343_0 := bc HB.out hx343_0
         replace hx343_1 := bc HB.out hx343_1
         replace hx343_2 := bc HB.out hx343_2
         replace hx343_3 := bc HB.out hx343_3
         replace hx343_4 := bc HB.out hx343_4
         replace hx343_5 := bc HB.out hx343_5
         replace hx343_6 := bc HB.out hx343_6
         replace hx343_7 := bc HB.out hx343_7
         replace p343 := eq_true p343
         replace q343 := eq_true q343
         go_wp2_with (first | ((with_reducible refine gate_callee (f := 22) rfl ?_); refine goesL_ (some 28) rfl rfl Try.func22 (by kernel_rfl) rfl #[.slice (some ad341) l0.length c0, .string ((rd_T30 l0 x5_2).f2)] rfl u11_1 ?_; (with_reducible refine (impl_FindDevice.calls k2 _ _ l0 ((rd_T30 l0 x5_2).f2) t344 _ ?side1 ?side2 A14.out).mono ?_); (case side1 => exact y11_0); (case side2 => exact HC0.out); rintro e w15 ⟨rfl, hb⟩; refine ⟨_, rfl, ?_⟩; have n0_ := am (below_step u11_7 hb); clear HB; have HB := n0_; clear n0_; (try clear hb); (try clear hb2); (try clear hk); (try clear hi)))
         go_roundg k2
         case measure => have := HJ3.out; have := HK2.out; omega
         case rel => exact ⟨(t344), u11_8, H', ⟨by have := HJ3.out; have := HK2.out; omega⟩, ⟨s11_5⟩⟩
       ·rw [if_neg c12] at H
        exact absurd H (by simp)
      ·rw [if_neg c11] at H
       exact absurd H (by simp)

end Go.Proofs.Ytkedcokhcgklpaa.MFnLines
