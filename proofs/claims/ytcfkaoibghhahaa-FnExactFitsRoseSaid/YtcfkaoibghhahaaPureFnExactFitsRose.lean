/- The law FnExactFitsRose comes to true for every input: The program's FitsRose returns what the reference's returns, for all arguments. No condition beside the statement's own. -/
import Derived.Test.YtcfkaoibghhahaaStFnExactFitsRose
namespace Go.Proofs.Ytcfkaoibghhahaa.Pure
open Go Go.RowKit Go.Proofs.Ytcfkaoibghhahaa.MFnExactFitsRose Go.Proofs.YtcfkaoibghhahaaW.PrintWords Go.Proofs.YtcfkaoibghhahaaW.PrintLast Go.Proofs.YtcfkaoibghhahaaW.PrintMore
set_option linter.unusedVariables false
set_option linter.unusedSimpArgs false

theorem ev_succ {α : Type} {g : Nat → Option α} {r : α} (h : Ev (fun k => g (k + 1)) r) : Ev g r := Ev.step (fun _ => rfl) h
theorem ev_ite {α : Type} {c : Prop} [Decidable c] {f g : Nat → Option α} {r : α} (h : c → Ev f r) (h' : ¬ c → Ev g r) : Ev (fun k => if c then f k else g k) r := by
  by_cases hc : c
  · simp only [if_pos hc]; exact h hc
  · simp only [if_neg hc]; exact h' hc
theorem ix {α : Type} {l pre t : List α} {a : α} (h : l = pre ++ a :: t) (hl : l.length < 4611686018427387904) :
    (pre.length : Int) < (l.length : Int) ∧ (∀ d, l.getD pre.length d = a) ∧ wrap64 ((pre.length : Int) + 1) = ((pre ++ [a]).length : Int) ∧ l = (pre ++ [a]) ++ t := by
  subst h
  simp only [List.length_append, List.length_cons, List.length_nil] at *
  refine ⟨by omega, fun d => by simp [List.getD], by unfold wrap64; omega, by simp⟩
theorem ixn {α : Type} {l pre : List α} (h : l = pre ++ []) : ¬ (pre.length : Int) < (l.length : Int) := by
  subst h; simp
theorem nn (n : Nat) : (0 : Int) ≤ (n : Int) := Int.natCast_nonneg n
theorem w64 {n : Int} (h0 : -9223372036854775808 ≤ n) (h1 : n < 9223372036854775808) : wrap64 n = n := by unfold wrap64; omega
theorem mn_min (a b : Int) : mn a b = min a b := by unfold mn; omega
theorem mx_max (a b : Int) : mx a b = max a b := by unfold mx; omega
theorem set_app {α : Type} (pre t : List α) (a b : α) : (pre ++ a :: t).set pre.length b = pre ++ b :: t := by simp
theorem app1 {α : Type} (pre : List α) (a : α) (t : List α) : pre ++ a :: t = (pre ++ [a]) ++ t := by simp

/-- The numbers from c on, n of them. -/
def upto : Nat → Int → List Int
  | 0, _ => []
  | n + 1, c => c :: upto n (c + 1)
theorem upto_length : ∀ n c, (upto n c).length = n
  | 0, _ => rfl
  | n + 1, c => by simp [upto, upto_length n]

theorem spec_l1In_eq (a b c : Int) : spec_l1In.f a b c = some (decide (b ≤ a) && decide (a ≤ c)) := by
  unfold spec_l1In.f; split <;> simp <;> omega
theorem impl_isWithin_eq (a b c : Int) : impl_isWithin.f a b c = some (decide (b ≤ a) && decide (a ≤ c)) := by
  unfold impl_isWithin.f; split <;> simp <;> omega
abbrev Gu := S69
abbrev Pl := S25
abbrev LGu := S73
abbrev LPl := S71
theorem ix2 {α : Type} {l pre t : List α} {p a : α} (h : l = (pre ++ [p]) ++ a :: t) (hl : l.length < 4611686018427387904) :
    (((pre ++ [p]).length : Int)) > 0 ∧ wrap64 (((pre ++ [p]).length : Int) - 1) = (pre.length : Int) ∧ (∀ d, l.getD pre.length d = p) ∧ (pre.length : Int) < (l.length : Int) := by
  subst h
  simp only [List.length_append, List.length_cons, List.length_nil] at *
  refine ⟨by omega, by unfold wrap64; omega, fun d => by simp [List.getD], by omega⟩
theorem ev_eq {α : Type} {f g : Nat → Option α} {r : α} (h : f = g) (k : Ev g r) : Ev f r := h ▸ k
def drB (a b : Int) : Bool := (decide (-8 ≤ a) && decide (a ≤ 8)) && (decide (-8 ≤ b) && decide (b ≤ 8))
theorem spec_l4Drift_eq (a b : Int) : spec_l4Drift.f a b = some (drB a b) := by
  simp only [spec_l4Drift.f, spec_l1In_eq, Option.bind_some, drB]
  cases (decide (-8 ≤ a) && decide (a ≤ 8)) <;> simp
def drB' (a b : Int) : Bool := (decide (-8 ≤ a) && decide (a ≤ 8)) && (decide (-8 ≤ b) && decide (b ≤ 8))
theorem impl_isDrift_eq (a b : Int) : impl_isDrift.f a b = some (drB' a b) := by
  simp only [impl_isDrift.f, impl_isWithin_eq, Option.bind_some, drB']
  cases (decide (-8 ≤ a) && decide (a ≤ 8)) <;> simp
def gDr (a b : Int) : Bool := (decide (-8 ≤ a) && decide (a ≤ 8)) && (decide (-8 ≤ b) && decide (b ≤ 8))
def gOk (g : Gu) : Bool := (decide (0 ≤ g.f0) && decide (g.f0 ≤ 64)) && gDr g.f1.f0 g.f1.f1
/-- The gusts behind one. -/
def wRest : Gu → List Gu → Bool
  | _, [] => true
  | p, g :: t => gOk g && (decide (p.f0 < g.f0) && wRest g t)
def wAll : List Gu → Bool
  | [] => true
  | g :: t => gOk g && wRest g t
/-- IsWind -/
def pWind (l : List Gu) : Bool := wAll l && decide ((l.length : Int) ≤ 8)
theorem pWind_len {l : List Gu} (h : pWind l = true) : l.length ≤ 8 := by
  simp only [pWind, Bool.and_eq_true, decide_eq_true_eq] at h; omega
/-- The drift at a tick. -/
def pAt (d : Int × Int) (w : List Gu) (t : Int) : Int × Int := w.foldl (fun d g => if g.f0 ≤ t then (g.f1.f0, g.f1.f1) else d) d
theorem spec_IsWind_l0 (l : List Gu) (hl : l.length < 1099511627776) : ∀ (suf pre : List Gu) (p : Gu), l = (pre ++ [p]) ++ suf →
    Ev (fun k => spec_IsWind.l0 k l l (l.length : Int) ((pre ++ [p]).length : Int)) (wRest p suf && decide ((l.length : Int) ≤ 8)) := by
  intro suf
  induction suf with
  | nil =>
    intro pre p h
    refine ev_succ ?_
    simp only [spec_IsWind.l0, if_neg (ixn h), wRest, Bool.true_and]
    exact Ev.now _
  | cons a t ih =>
    intro pre p h
    obtain ⟨h1, h2, h3, h4⟩ := ix h (by omega)
    obtain ⟨h5, h6, h7, h8⟩ := ix2 h (by omega)
    refine ev_succ ?_
    simp only [spec_IsWind.l0, if_pos h1, if_pos (nn _), Int.toNat_natCast, rd_T69, h2, h3, h6, h7, spec_l1In_eq, spec_l4Drift_eq, Option.bind_some, if_pos h5, if_pos h8]
    rw [wRest, gOk]
    change Ev (fun k => if (decide (0 ≤ a.f0) && decide (a.f0 ≤ 64)) = true then if gDr a.f1.f0 a.f1.f1 = true then _ else _ else _) _
    refine ev_ite (fun c1 => ?_) (fun c1 => ?_)
    · rw [c1, Bool.true_and]
      refine ev_ite (fun c2 => ?_) (fun c2 => ?_)
      · rw [c2, Bool.true_and]
        refine ev_ite (fun c3 => ?_) (fun c3 => ?_)
        · rw [decide_eq_false (by omega), Bool.false_and, Bool.false_and]; exact Ev.now _
        · rw [decide_eq_true (by omega), Bool.true_and]; exact ih (pre ++ [p]) a h4
      · rw [Bool.eq_false_iff.2 c2, Bool.false_and, Bool.false_and]; exact Ev.now _
    · rw [Bool.eq_false_iff.2 c1, Bool.false_and, Bool.false_and, Bool.false_and]; exact Ev.now _
theorem spec_IsWind_ev (l : List Gu) (hl : l.length < 1099511627776) : Ev (fun k => spec_IsWind.f k l) (pWind l) := by
  unfold spec_IsWind.f pWind
  refine ev_succ ?_
  cases l with
  | nil =>
    simp only [spec_IsWind.l0]
    exact Ev.now _
  | cons a t =>
    obtain ⟨h1, h2, h3, h4⟩ := ix (l := a :: t) (pre := []) rfl (by omega)
    simp only [List.length_nil, Int.natCast_zero] at h1 h2 h3
    simp only [spec_IsWind.l0, if_pos h1, if_pos (show (0 : Int) ≤ 0 by omega), Int.toNat_zero, rd_T69, h2, h3, spec_l1In_eq, spec_l4Drift_eq, Option.bind_some, if_neg (show ¬ ((0 : Int) > 0) by omega)]
    rw [wAll, gOk]
    change Ev (fun k => if (decide (0 ≤ a.f0) && decide (a.f0 ≤ 64)) = true then if gDr a.f1.f0 a.f1.f1 = true then _ else _ else _) _
    refine ev_ite (fun c1 => ?_) (fun c1 => ?_)
    · rw [c1, Bool.true_and]
      refine ev_ite (fun c2 => ?_) (fun c2 => ?_)
      · rw [c2, Bool.true_and]
        exact spec_IsWind_l0 (a :: t) hl t [] a rfl
      · rw [Bool.eq_false_iff.2 c2, Bool.false_and, Bool.false_and]; exact Ev.now _
    · rw [Bool.eq_false_iff.2 c1, Bool.false_and, Bool.false_and, Bool.false_and]; exact Ev.now _
theorem impl_IsWind_l0 (l : List Gu) (hl : l.length < 1099511627776) : ∀ (suf pre : List Gu) (p : Gu), l = (pre ++ [p]) ++ suf →
    Ev (fun k => impl_IsWind.l0 k l l (l.length : Int) ((pre ++ [p]).length : Int)) (wRest p suf && decide ((l.length : Int) ≤ 8)) := by
  intro suf
  induction suf with
  | nil =>
    intro pre p h
    refine ev_succ ?_
    simp only [impl_IsWind.l0, if_neg (ixn h), wRest, Bool.true_and]
    exact Ev.now _
  | cons a t ih =>
    intro pre p h
    obtain ⟨h1, h2, h3, h4⟩ := ix h (by omega)
    obtain ⟨h5, h6, h7, h8⟩ := ix2 h (by omega)
    refine ev_succ ?_
    simp only [impl_IsWind.l0, if_pos h1, if_pos (nn _), Int.toNat_natCast, rd_T69, h2, h3, h6, h7, impl_isWithin_eq, impl_isDrift_eq, Option.bind_some, if_pos h5, if_pos h8]
    rw [wRest, gOk]
    change Ev (fun k => if (decide (0 ≤ a.f0) && decide (a.f0 ≤ 64)) = true then if gDr a.f1.f0 a.f1.f1 = true then _ else _ else _) _
    refine ev_ite (fun c1 => ?_) (fun c1 => ?_)
    · rw [c1, Bool.true_and]
      refine ev_ite (fun c2 => ?_) (fun c2 => ?_)
      · rw [c2, Bool.true_and]
        refine ev_ite (fun c3 => ?_) (fun c3 => ?_)
        · rw [decide_eq_false (by omega), Bool.false_and, Bool.false_and]; exact Ev.now _
        · rw [decide_eq_true (by omega), Bool.true_and]; exact ih (pre ++ [p]) a h4
      · rw [Bool.eq_false_iff.2 c2, Bool.false_and, Bool.false_and]; exact Ev.now _
    · rw [Bool.eq_false_iff.2 c1, Bool.false_and, Bool.false_and, Bool.false_and]; exact Ev.now _
theorem impl_IsWind_ev (l : List Gu) (hl : l.length < 1099511627776) : Ev (fun k => impl_IsWind.f k l) (pWind l) := by
  unfold impl_IsWind.f pWind
  refine ev_succ ?_
  cases l with
  | nil =>
    simp only [impl_IsWind.l0]
    exact Ev.now _
  | cons a t =>
    obtain ⟨h1, h2, h3, h4⟩ := ix (l := a :: t) (pre := []) rfl (by omega)
    simp only [List.length_nil, Int.natCast_zero] at h1 h2 h3
    simp only [impl_IsWind.l0, if_pos h1, if_pos (show (0 : Int) ≤ 0 by omega), Int.toNat_zero, rd_T69, h2, h3, impl_isWithin_eq, impl_isDrift_eq, Option.bind_some, if_neg (show ¬ ((0 : Int) > 0) by omega)]
    rw [wAll, gOk]
    change Ev (fun k => if (decide (0 ≤ a.f0) && decide (a.f0 ≤ 64)) = true then if gDr a.f1.f0 a.f1.f1 = true then _ else _ else _) _
    refine ev_ite (fun c1 => ?_) (fun c1 => ?_)
    · rw [c1, Bool.true_and]
      refine ev_ite (fun c2 => ?_) (fun c2 => ?_)
      · rw [c2, Bool.true_and]
        exact impl_IsWind_l0 (a :: t) hl t [] a rfl
      · rw [Bool.eq_false_iff.2 c2, Bool.false_and, Bool.false_and]; exact Ev.now _
    · rw [Bool.eq_false_iff.2 c1, Bool.false_and, Bool.false_and, Bool.false_and]; exact Ev.now _
theorem spec_l4At_l0 (l : List Gu) (u : Int) (hl : l.length < 1099511627776) : ∀ (suf pre : List Gu) (d1 d2 : Int), l = pre ++ suf →
    Ev (fun k => spec_l4At.l0 k u l (l.length : Int) (pre.length : Int) d1 d2) (pAt (d1, d2) suf u) := by
  intro suf
  induction suf with
  | nil =>
    intro pre d1 d2 h
    refine ev_succ ?_
    simp only [spec_l4At.l0, if_neg (ixn h)]
    exact Ev.now _
  | cons a t ih =>
    intro pre d1 d2 h
    obtain ⟨h1, h2, h3, h4⟩ := ix h (by omega)
    refine ev_succ ?_
    simp only [spec_l4At.l0, if_pos h1, if_pos (nn _), Int.toNat_natCast, rd_T69, h2, h3]
    rw [pAt, List.foldl_cons]
    refine ev_ite (fun c => ?_) (fun c => ?_)
    · rw [if_pos c]; exact ih _ _ _ h4
    · rw [if_neg c]; exact ih _ _ _ h4
theorem spec_l4At_ev (l : List Gu) (u : Int) (hl : l.length < 1099511627776) : Ev (fun k => spec_l4At.f k l u) (pAt (0, 0) l u) := spec_l4At_l0 l u hl l [] 0 0 rfl
theorem impl_DriftAt_l0 (l : List Gu) (u : Int) (hl : l.length < 1099511627776) : ∀ (suf pre : List Gu) (d1 d2 : Int), l = pre ++ suf →
    Ev (fun k => impl_DriftAt.l0 k u l (l.length : Int) (pre.length : Int) d1 d2) (pAt (d1, d2) suf u) := by
  intro suf
  induction suf with
  | nil =>
    intro pre d1 d2 h
    refine ev_succ ?_
    simp only [impl_DriftAt.l0, if_neg (ixn h)]
    exact Ev.now _
  | cons a t ih =>
    intro pre d1 d2 h
    obtain ⟨h1, h2, h3, h4⟩ := ix h (by omega)
    refine ev_succ ?_
    simp only [impl_DriftAt.l0, if_pos h1, if_pos (nn _), Int.toNat_natCast, rd_T69, h2, h3]
    rw [pAt, List.foldl_cons]
    refine ev_ite (fun c => ?_) (fun c => ?_)
    · rw [if_pos c]; exact ih _ _ _ h4
    · rw [if_neg c]; exact ih _ _ _ h4
theorem impl_DriftAt_ev (l : List Gu) (u : Int) (hl : l.length < 1099511627776) : Ev (fun k => impl_DriftAt.f k l u) (if pWind l = true then pAt (0, 0) l u else (0, 0)) := by
  unfold impl_DriftAt.f
  refine Ev.bind (impl_IsWind_ev l hl) ?_
  refine ev_ite (fun c => ?_) (fun c => ?_)
  · rw [if_pos c]; exact impl_DriftAt_l0 l u hl l [] 0 0 rfl
  · rw [if_neg c]; exact Ev.now _
theorem impl_DriftAt_ok {l : List Gu} (h : pWind l = true) (u : Int) : Ev (fun k => impl_DriftAt.f k l u) (pAt (0, 0) l u) := by
  have := impl_DriftAt_ev l u (by have := pWind_len h; omega)
  rwa [if_pos h] at this
theorem laws_toPlace_eq (a b : Int) : laws_toPlace.f a b = some (a, b) := rfl
theorem laws_toGust_eq (a b c : Int) : laws_toGust.f a b c = some (a, b, c) := rfl
def cvG (g : LGu) : Gu := ⟨g.f0, ⟨g.f1.f0, g.f1.f1⟩⟩
theorem laws_toGustS_l0 (l : List LGu) (hl : l.length < 1099511627776) : ∀ (suf pre : List LGu), l = pre ++ suf →
    Ev (fun k => laws_toGustS.l0 k l (pre.map cvG ++ List.replicate suf.length z69) (pre.length : Int)) (l.map cvG) := by
  intro suf
  induction suf with
  | nil =>
    intro pre h
    refine ev_succ ?_
    simp only [laws_toGustS.l0, if_neg (ixn h)]
    simpa [h] using Ev.now (l.map cvG)
  | cons a t ih =>
    intro pre h
    obtain ⟨h1, h2, h3, h4⟩ := ix h (by omega)
    refine ev_succ ?_
    have h5 : (pre.length : Int) < ((pre.map cvG ++ List.replicate (a :: t).length z69).length : Int) := by simp; omega
    simp only [laws_toGustS.l0, if_pos h1, if_pos (nn _), laws_toGust_eq, Option.bind_some, if_pos h5, Int.toNat_natCast, rd_T73, h2, h3]
    have := ih (pre ++ [a]) h4
    have hp : pre.length = (pre.map cvG).length := by simp
    rw [List.length_cons, List.replicate_succ, hp, set_app]
    simpa [cvG] using this
theorem laws_toGustS_ev (l : List LGu) (hl : l.length < 1099511627776) : Ev (fun k => laws_toGustS.f k l) (l.map cvG) := by
  have := laws_toGustS_l0 l hl l [] rfl
  simp only [laws_toGustS.f, if_pos (nn _), Int.toNat_natCast, if_pos (show l.length ≤ 11728124029610 by omega)]
  simpa using this
def cvP (g : LPl) : Pl := ⟨g.f0, g.f1⟩
theorem laws_toPlaceS_l0 (l : List LPl) (hl : l.length < 1099511627776) : ∀ (suf pre : List LPl), l = pre ++ suf →
    Ev (fun k => laws_toPlaceS.l0 k l (pre.map cvP ++ List.replicate suf.length z25) (pre.length : Int)) (l.map cvP) := by
  intro suf
  induction suf with
  | nil =>
    intro pre h
    refine ev_succ ?_
    simp only [laws_toPlaceS.l0, if_neg (ixn h)]
    simpa [h] using Ev.now (l.map cvP)
  | cons a t ih =>
    intro pre h
    obtain ⟨h1, h2, h3, h4⟩ := ix h (by omega)
    refine ev_succ ?_
    have h5 : (pre.length : Int) < ((pre.map cvP ++ List.replicate (a :: t).length z25).length : Int) := by simp; omega
    simp only [laws_toPlaceS.l0, if_pos h1, if_pos (nn _), laws_toPlace_eq, Option.bind_some, if_pos h5, Int.toNat_natCast, rd_T71, h2, h3]
    have := ih (pre ++ [a]) h4
    have hp : pre.length = (pre.map cvP).length := by simp
    rw [List.length_cons, List.replicate_succ, hp, set_app]
    simpa [cvP] using this
theorem laws_toPlaceS_ev (l : List LPl) (hl : l.length < 1099511627776) : Ev (fun k => laws_toPlaceS.f k l) (l.map cvP) := by
  have := laws_toPlaceS_l0 l hl l [] rfl
  simp only [laws_toPlaceS.f, if_pos (nn _), Int.toNat_natCast, if_pos (show l.length ≤ 17592186044416 by omega)]
  simpa using this
theorem laws_eqPlace_rfl (a b : Int) : laws_eqPlace.f a b a b = some true := by simp [laws_eqPlace.f]
theorem laws_eqGust_rfl (a b c : Int) : laws_eqGust.f a b c a b c = some true := by simp [laws_eqGust.f, laws_eqPlace_rfl]
theorem laws_eqGustS_l0 (x : List Gu) (hl : x.length < 1099511627776) : ∀ (d i : Nat), i + d = x.length → Ev (fun k => laws_eqGustS.l0 k x x (i : Int)) true := by
  intro d
  induction d with
  | zero =>
    intro i h
    refine ev_succ ?_
    simp only [laws_eqGustS.l0, if_neg (show ¬ ((i : Int) < (x.length : Int)) by omega)]
    exact Ev.now _
  | succ d ih =>
    intro i h
    refine ev_succ ?_
    simp only [laws_eqGustS.l0, if_pos (show ((i : Int) < (x.length : Int)) by omega), if_pos (nn _), laws_eqGust_rfl, Option.bind_some, if_true]
    rw [show wrap64 ((i : Int) + 1) = ((i + 1 : Nat) : Int) by unfold wrap64; omega]
    exact ih (i + 1) (by omega)
theorem laws_eqGustS_rfl (x : List Gu) (hl : x.length < 1099511627776) : Ev (fun k => laws_eqGustS.f k x x) true := by
  simp only [laws_eqGustS.f, if_true]
  exact laws_eqGustS_l0 x hl x.length 0 (by omega)
theorem laws_eqPlaceS_l0 (x : List Pl) (hl : x.length < 1099511627776) : ∀ (d i : Nat), i + d = x.length → Ev (fun k => laws_eqPlaceS.l0 k x x (i : Int)) true := by
  intro d
  induction d with
  | zero =>
    intro i h
    refine ev_succ ?_
    simp only [laws_eqPlaceS.l0, if_neg (show ¬ ((i : Int) < (x.length : Int)) by omega)]
    exact Ev.now _
  | succ d ih =>
    intro i h
    refine ev_succ ?_
    simp only [laws_eqPlaceS.l0, if_pos (show ((i : Int) < (x.length : Int)) by omega), if_pos (nn _), laws_eqPlace_rfl, Option.bind_some, if_true]
    rw [show wrap64 ((i : Int) + 1) = ((i + 1 : Nat) : Int) by unfold wrap64; omega]
    exact ih (i + 1) (by omega)
theorem laws_eqPlaceS_rfl (x : List Pl) (hl : x.length < 1099511627776) : Ev (fun k => laws_eqPlaceS.f k x x) true := by
  simp only [laws_eqPlaceS.f, if_true]
  exact laws_eqPlaceS_l0 x hl x.length 0 (by omega)
theorem laws_szGustS_eq (l : List LGu) (n : Int) (hn : 0 ≤ n) (hn2 : n ≤ 1048576) (hl : l.length ≤ maxLen) : laws_szGustS.f l n = some (if n - (l.length : Int) < 0 then -1 else n - (l.length : Int)) := by
  have : (l.length : Int) ≤ 9223372036854775807 := by have : maxLen = 9223372036854775807 := rfl; omega
  unfold laws_szGustS.f
  rw [show wrap64 (n - (l.length : Int)) = n - (l.length : Int) by unfold wrap64; omega]
  split <;> rfl
theorem laws_szPlaceS_eq (l : List LPl) (n : Int) (hn : 0 ≤ n) (hn2 : n ≤ 1048576) (hl : l.length ≤ maxLen) : laws_szPlaceS.f l n = some (if n - (l.length : Int) < 0 then -1 else n - (l.length : Int)) := by
  have : (l.length : Int) ≤ 9223372036854775807 := by have : maxLen = 9223372036854775807 := rfl; omega
  unfold laws_szPlaceS.f
  rw [show wrap64 (n - (l.length : Int)) = n - (l.length : Int) by unfold wrap64; omega]
  split <;> rfl
/-- The order of places. -/
def pCmp (a b c d : Int) : Int := if a < c then -1 else if a = c then (if b < d then -1 else if b = d then 0 else 1) else 1
def rRest.gDr2 (a b : Int) : Bool := (decide (-8 ≤ a) && decide (a ≤ 8)) && (decide (-8 ≤ b) && decide (b ≤ 8))
def rRest : Pl → List Pl → Bool
  | _, [] => true
  | p, q :: t => rRest.gDr2 q.f0 q.f1 && (decide (pCmp p.f0 p.f1 q.f0 q.f1 < 0) && rRest q t)
def rAll : List Pl → Bool
  | [] => true
  | q :: t => rRest.gDr2 q.f0 q.f1 && rRest q t
/-- IsRose -/
def pRose (l : List Pl) : Bool := rAll l && (decide (1 ≤ (l.length : Int)) && decide ((l.length : Int) ≤ 4))
theorem pRose_len {l : List Pl} (h : pRose l = true) : 1 ≤ l.length ∧ l.length ≤ 4 := by
  simp only [pRose, Bool.and_eq_true, decide_eq_true_eq] at h; omega
theorem spec_ComparePlaces_ev (a b c d : Int) : Ev (fun k => spec_ComparePlaces.f k a b c d) (pCmp a b c d) := by
  unfold spec_ComparePlaces.f pCmp
  refine ev_ite (fun h => ?_) (fun h => ?_)
  · rw [if_pos h, decide_eq_true h]
    refine ev_succ ?_
    simp only [spec_ComparePlaces.j0, if_true]; exact Ev.now _
  · rw [if_neg h]
    refine ev_ite (fun h1 => ?_) (fun h1 => ?_)
    · rw [if_pos h1]
      refine ev_succ ?_
      by_cases h2 : b < d
      · simp only [spec_ComparePlaces.j0, decide_eq_true h2, if_true, if_pos h2]; exact Ev.now _
      · simp only [spec_ComparePlaces.j0, decide_eq_false h2, Bool.false_eq_true, if_false, if_neg h2, h1, beq_self_eq_true, Bool.true_and, beq_iff_eq]
        refine ev_ite (fun h3 => ?_) (fun h3 => ?_)
        · rw [if_pos h3]; exact Ev.now _
        · rw [if_neg h3]; exact Ev.now _
    · rw [if_neg h1]
      refine ev_succ ?_
      simp only [spec_ComparePlaces.j0, Bool.false_eq_true, if_false, beq_eq_false_iff_ne.2 h1, Bool.false_and]; exact Ev.now _
def pCmpI (a b : Int) : Int := if a < b then -1 else if a = b then 0 else 1
theorem cmp_Compare_int_eq (a b : Int) : cmp_Compare_int.f a b = some (pCmpI a b) := by
  simp only [cmp_Compare_int.f, cmp_isNaN_int.f, bne_self_eq_false, Option.bind_some, Bool.false_eq_true, if_false, pCmpI]
  repeat' split
  all_goals first | rfl | omega
theorem cmp_Or_int_ev (a b : Int) : Ev (fun k => cmp_Or_int.f k [a, b]) (if a = 0 then b else a) := by
  unfold cmp_Or_int.f
  refine ev_succ ?_
  simp only [cmp_Or_int.l0, List.length_cons, List.length_nil, if_pos (show ((0 : Int) < ((0 + 1 + 1 : Nat) : Int)) by omega), if_pos (show (0 : Int) ≤ 0 by omega), rd, Int.toNat_zero, List.getD_cons_zero]
  refine ev_ite (fun h => ?_) (fun h => ?_)
  · rw [if_pos h, show wrap64 (0 + 1) = 1 by unfold wrap64; omega]
    refine ev_succ ?_
    simp only [cmp_Or_int.l0, List.length_cons, List.length_nil, if_pos (show ((1 : Int) < ((0 + 1 + 1 : Nat) : Int)) by omega), if_pos (show (0 : Int) ≤ 1 by omega), rd, show ((1 : Int).toNat) = 1 from rfl, List.getD_cons_succ, List.getD_cons_zero]
    refine ev_ite (fun h2 => ?_) (fun h2 => Ev.now _)
    rw [show wrap64 (1 + 1) = 2 by unfold wrap64; omega, h2]
    refine ev_succ ?_
    simp only [cmp_Or_int.l0, List.length_cons, List.length_nil, if_neg (show ¬ ((2 : Int) < ((0 + 1 + 1 : Nat) : Int)) by omega)]
    exact Ev.now _
  · rw [if_neg h]; exact Ev.now _
theorem impl_ComparePlaces_ev (a b c d : Int) : Ev (fun k => impl_ComparePlaces.f k a b c d) (pCmp a b c d) := by
  simp only [impl_ComparePlaces.f, cmp_Compare_int_eq, Option.bind_some]
  have := cmp_Or_int_ev (pCmpI a c) (pCmpI b d)
  have e : (if pCmpI a c = 0 then pCmpI b d else pCmpI a c) = pCmp a b c d := by
    unfold pCmpI pCmp
    by_cases h1 : a < c
    · simp [h1]
    · by_cases h2 : a = c
      · simp [h2]
      · simp [h1, h2]
  rw [e] at this
  exact Ev.bind this (Ev.now _)
theorem spec_IsRose_l0 (l : List Pl) (hl : l.length < 1099511627776) : ∀ (suf pre : List Pl) (p : Pl), l = (pre ++ [p]) ++ suf →
    Ev (fun k => spec_IsRose.l0 k l l (l.length : Int) ((pre ++ [p]).length : Int)) (rRest p suf && (decide (1 ≤ (l.length : Int)) && decide ((l.length : Int) ≤ 4))) := by
  intro suf
  induction suf with
  | nil =>
    intro pre p h
    refine ev_succ ?_
    have h1 : 1 ≤ (l.length : Int) := by rw [h]; simp; omega
    simp only [spec_IsRose.l0, if_neg (ixn h), rRest, Bool.true_and, if_pos (show (l.length : Int) ≥ 1 by omega), decide_eq_true h1]
    exact Ev.now _
  | cons a t ih =>
    intro pre p h
    obtain ⟨h1, h2, h3, h4⟩ := ix h (by omega)
    obtain ⟨h5, h6, h7, h8⟩ := ix2 h (by omega)
    refine ev_succ ?_
    simp only [spec_IsRose.l0, if_pos h1, if_pos (nn _), Int.toNat_natCast, rd_T25, h2, h3, h6, h7, spec_l4Drift_eq, Option.bind_some, if_pos h5, if_pos h8]
    rw [rRest]
    change Ev (fun k => if rRest.gDr2 a.f0 a.f1 = true then _ else _) _
    refine ev_ite (fun c1 => ?_) (fun c1 => ?_)
    · rw [c1, Bool.true_and]
      refine Ev.bind (spec_ComparePlaces_ev _ _ _ _) ?_
      refine ev_ite (fun c3 => ?_) (fun c3 => ?_)
      · rw [decide_eq_false (by omega), Bool.false_and, Bool.false_and]; exact Ev.now _
      · rw [decide_eq_true (by omega), Bool.true_and]; exact ih (pre ++ [p]) a h4
    · rw [Bool.eq_false_iff.2 c1, Bool.false_and, Bool.false_and]; exact Ev.now _
theorem spec_IsRose_ev (l : List Pl) (hl : l.length < 1099511627776) : Ev (fun k => spec_IsRose.f k l) (pRose l) := by
  unfold spec_IsRose.f pRose
  refine ev_succ ?_
  cases l with
  | nil =>
    simp only [spec_IsRose.l0]
    exact Ev.now _
  | cons a t =>
    obtain ⟨h1, h2, h3, h4⟩ := ix (l := a :: t) (pre := []) rfl (by omega)
    simp only [List.length_nil, Int.natCast_zero] at h1 h2 h3
    simp only [spec_IsRose.l0, if_pos h1, if_pos (show (0 : Int) ≤ 0 by omega), Int.toNat_zero, rd_T25, h2, h3, spec_l4Drift_eq, Option.bind_some, if_neg (show ¬ ((0 : Int) > 0) by omega)]
    rw [rAll]
    change Ev (fun k => if rRest.gDr2 a.f0 a.f1 = true then _ else _) _
    refine ev_ite (fun c1 => ?_) (fun c1 => ?_)
    · rw [c1, Bool.true_and]
      exact spec_IsRose_l0 (a :: t) hl t [] a rfl
    · rw [Bool.eq_false_iff.2 c1, Bool.false_and, Bool.false_and]; exact Ev.now _
theorem impl_IsRose_l0 (l : List Pl) (hl : l.length < 1099511627776) : ∀ (suf pre : List Pl) (p : Pl), l = (pre ++ [p]) ++ suf →
    Ev (fun k => impl_IsRose.l0 k l l (l.length : Int) ((pre ++ [p]).length : Int)) (rRest p suf && (decide (1 ≤ (l.length : Int)) && decide ((l.length : Int) ≤ 4))) := by
  intro suf
  induction suf with
  | nil =>
    intro pre p h
    refine ev_succ ?_
    simp only [impl_IsRose.l0, if_neg (ixn h), rRest, Bool.true_and, impl_isWithin_eq, Option.bind_some]
    exact Ev.now _
  | cons a t ih =>
    intro pre p h
    obtain ⟨h1, h2, h3, h4⟩ := ix h (by omega)
    obtain ⟨h5, h6, h7, h8⟩ := ix2 h (by omega)
    refine ev_succ ?_
    simp only [impl_IsRose.l0, if_pos h1, if_pos (nn _), Int.toNat_natCast, rd_T25, h2, h3, h6, h7, impl_isDrift_eq, Option.bind_some, if_pos h5, if_pos h8]
    rw [rRest]
    change Ev (fun k => if rRest.gDr2 a.f0 a.f1 = true then _ else _) _
    refine ev_ite (fun c1 => ?_) (fun c1 => ?_)
    · rw [c1, Bool.true_and]
      refine Ev.bind (impl_ComparePlaces_ev _ _ _ _) ?_
      refine ev_ite (fun c3 => ?_) (fun c3 => ?_)
      · rw [decide_eq_false (by omega), Bool.false_and, Bool.false_and]; exact Ev.now _
      · rw [decide_eq_true (by omega), Bool.true_and]; exact ih (pre ++ [p]) a h4
    · rw [Bool.eq_false_iff.2 c1, Bool.false_and, Bool.false_and]; exact Ev.now _
theorem impl_IsRose_ev (l : List Pl) (hl : l.length < 1099511627776) : Ev (fun k => impl_IsRose.f k l) (pRose l) := by
  unfold impl_IsRose.f pRose
  refine ev_succ ?_
  cases l with
  | nil =>
    simp only [impl_IsRose.l0, impl_isWithin_eq, Option.bind_some]
    exact Ev.now _
  | cons a t =>
    obtain ⟨h1, h2, h3, h4⟩ := ix (l := a :: t) (pre := []) rfl (by omega)
    simp only [List.length_nil, Int.natCast_zero] at h1 h2 h3
    simp only [impl_IsRose.l0, if_pos h1, if_pos (show (0 : Int) ≤ 0 by omega), Int.toNat_zero, rd_T25, h2, h3, impl_isDrift_eq, Option.bind_some, if_neg (show ¬ ((0 : Int) > 0) by omega)]
    rw [rAll]
    change Ev (fun k => if rRest.gDr2 a.f0 a.f1 = true then _ else _) _
    refine ev_ite (fun c1 => ?_) (fun c1 => ?_)
    · rw [c1, Bool.true_and]
      exact impl_IsRose_l0 (a :: t) hl t [] a rfl
    · rw [Bool.eq_false_iff.2 c1, Bool.false_and, Bool.false_and]; exact Ev.now _
def inRose (l : List Pl) (d : Int × Int) : Bool := l.any (fun p => (p.f0 == d.1) && (p.f1 == d.2))
def fitsN (w : List Gu) (r : List Pl) : Nat → Int → Bool
  | 0, _ => true
  | n + 1, t => inRose r (pAt (0, 0) w t) && fitsN w r n (t + 1)
/-- FitsRose -/
def pFits (w : List Gu) (r : List Pl) (n : Int) : Bool := if pWind w = true ∧ pRose r = true ∧ n ≤ 128 then fitsN w r n.toNat 0 else false
theorem spec_l4In_l0 (l : List Pl) (x y : Int) (hl : l.length < 1099511627776) : ∀ (suf pre : List Pl), l = pre ++ suf →
    Ev (fun k => spec_l4In.l0 k l (l.length : Int) (pre.length : Int) x y) (inRose suf (x, y)) := by
  intro suf
  induction suf with
  | nil =>
    intro pre h
    refine ev_succ ?_
    simp only [spec_l4In.l0, if_neg (ixn h), inRose, List.any_nil]
    exact Ev.now _
  | cons a t ih =>
    intro pre h
    obtain ⟨h1, h2, h3, h4⟩ := ix h (by omega)
    refine ev_succ ?_
    simp only [spec_l4In.l0, if_pos h1, if_pos (nn _), Int.toNat_natCast, rd_T25, h2, h3]
    rw [inRose, List.any_cons]
    refine ev_ite (fun c => ?_) (fun c => ?_)
    · rw [c, Bool.true_or]; exact Ev.now _
    · rw [Bool.eq_false_iff.2 c, Bool.false_or]; exact ih _ h4
theorem spec_l4In_ev (l : List Pl) (x y : Int) (hl : l.length < 1099511627776) : Ev (fun k => spec_l4In.f k l x y) (inRose l (x, y)) := spec_l4In_l0 l x y hl l [] rfl
theorem spec_FitsRose_l0 (w : List Gu) (r : List Pl) (e : Int) (hw : w.length < 1099511627776) (hr : r.length < 1099511627776) (he : e ≤ 128) : ∀ (n : Nat) (t : Int), 0 ≤ t → t + n = e →
    Ev (fun k => spec_FitsRose.l0 k w r e t) (fitsN w r n t) := by
  intro n
  induction n with
  | zero =>
    intro t h0 h
    refine ev_succ ?_
    simp only [spec_FitsRose.l0, if_neg (show ¬ (t < e) by omega), fitsN]
    exact Ev.now _
  | succ n ih =>
    intro t h0 h
    refine ev_succ ?_
    simp only [spec_FitsRose.l0, if_pos (show t < e by omega)]
    refine Ev.bind (spec_l4At_ev w t hw) ?_
    refine Ev.bind (spec_l4In_ev r _ _ hr) ?_
    rw [fitsN]
    refine ev_ite (fun c => ?_) (fun c => ?_)
    · rw [c, Bool.true_and, show wrap64 (t + 1) = t + 1 by unfold wrap64; omega]; exact ih (t + 1) (by omega) (by omega)
    · rw [Bool.eq_false_iff.2 c, Bool.false_and]; exact Ev.now _
theorem spec_FitsRose_ev (w : List Gu) (r : List Pl) (n : Int) (hw : w.length < 1099511627776) (hr : r.length < 1099511627776) : Ev (fun k => spec_FitsRose.f k w r n) (pFits w r n) := by
  have j1 : Ev (fun k => spec_FitsRose.j0 k w r n true) false := by
    refine ev_succ ?_
    simp only [spec_FitsRose.j0, if_true]; exact Ev.now _
  unfold spec_FitsRose.f pFits
  refine Ev.bind (spec_IsWind_ev w hw) ?_
  refine ev_ite (fun c => ?_) (fun c => ?_)
  · refine Ev.bind (spec_IsRose_ev r hr) ?_
    refine ev_ite (fun c2 => ?_) (fun c2 => ?_)
    · by_cases h : n > 128
      · rw [if_neg (by omega)]; simpa only [decide_eq_true h] using j1
      · rw [if_pos ⟨c, c2, by omega⟩, decide_eq_false h]
        refine ev_succ ?_
        simp only [spec_FitsRose.j0, Bool.false_eq_true, if_false]
        by_cases hn : 0 ≤ n
        · exact spec_FitsRose_l0 w r n hw hr (by omega) n.toNat 0 (by omega) (by omega)
        · rw [show n.toNat = 0 by omega, fitsN]
          refine ev_succ ?_
          simp only [spec_FitsRose.l0, if_neg (show ¬ (0 < n) by omega)]
          exact Ev.now _
    · rw [if_neg (fun h => c2 h.2.1)]; exact j1
  · rw [if_neg (fun h => c h.1)]; exact j1
theorem idxPlace_l0 (l : List Pl) (x y : Int) (hl : l.length < 1099511627776) : ∀ (suf pre : List Pl), l = pre ++ suf →
    ∃ i : Int, Ev (fun k => impl_Place_95.l0 k l (l.length : Int) (pre.length : Int) x y) i ∧ (decide (i ≥ 0) = inRose suf (x, y)) := by
  intro suf
  induction suf with
  | nil =>
    intro pre h
    refine ⟨-1, ev_succ ?_, by simp [inRose]⟩
    simp only [impl_Place_95.l0, if_neg (ixn h)]
    exact Ev.now _
  | cons a t ih =>
    intro pre h
    obtain ⟨h1, h2, h3, h4⟩ := ix h (by omega)
    by_cases c : ((a.f0 == x) && (a.f1 == y)) = true
    · have c' : (x == a.f0 && (y == a.f1)) = true := by
        simp only [Bool.and_eq_true, beq_iff_eq] at c ⊢
        exact ⟨c.1.symm, c.2.symm⟩
      refine ⟨(pre.length : Int), ev_succ ?_, ?_⟩
      · simp only [impl_Place_95.l0, if_pos h1, if_pos (nn _), Int.toNat_natCast, rd_T25, h2, c', if_true]
        exact Ev.now _
      · rw [inRose, List.any_cons, c, Bool.true_or]; simp
    · have c' : ¬ ((x == a.f0 && (y == a.f1)) = true) := by
        intro h
        simp only [Bool.and_eq_true, beq_iff_eq] at c h
        exact c ⟨h.1.symm, h.2.symm⟩
      obtain ⟨i, e, hi⟩ := ih _ h4
      refine ⟨i, ev_succ ?_, ?_⟩
      · simp only [impl_Place_95.l0, if_pos h1, if_pos (nn _), Int.toNat_natCast, rd_T25, h2, h3, if_neg c']
        exact e
      · rw [inRose, List.any_cons, Bool.eq_false_iff.2 c, Bool.false_or]; exact hi
theorem contPlace_ev (l : List Pl) (x y : Int) (hl : l.length < 1099511627776) : Ev (fun k => impl_Place_80.f k l x y) (inRose l (x, y)) := by
  obtain ⟨i, e, hi⟩ := idxPlace_l0 l x y hl l [] rfl
  unfold impl_Place_80.f
  refine Ev.bind e ?_
  rw [← hi]; exact Ev.now _
theorem impl_FitsRose_l0 (w : List Gu) (r : List Pl) (e : Int) (hw : pWind w = true) (hr : r.length < 1099511627776) (he : e ≤ 128) : ∀ (n : Nat) (t : Int), 0 ≤ t → t + n = e →
    Ev (fun k => impl_FitsRose.l0 k w r e t) (fitsN w r n t) := by
  intro n
  induction n with
  | zero =>
    intro t h0 h
    refine ev_succ ?_
    simp only [impl_FitsRose.l0, if_neg (show ¬ (t < e) by omega), fitsN]
    exact Ev.now _
  | succ n ih =>
    intro t h0 h
    refine ev_succ ?_
    simp only [impl_FitsRose.l0, if_pos (show t < e by omega)]
    refine Ev.bind (impl_DriftAt_ok hw t) ?_
    refine Ev.bind (contPlace_ev r _ _ hr) ?_
    rw [fitsN]
    refine ev_ite (fun c => ?_) (fun c => ?_)
    · rw [c, Bool.true_and, show wrap64 (t + 1) = t + 1 by unfold wrap64; omega]; exact ih (t + 1) (by omega) (by omega)
    · rw [Bool.eq_false_iff.2 c, Bool.false_and]; exact Ev.now _
theorem impl_FitsRose_ev (w : List Gu) (r : List Pl) (n : Int) (hw : w.length < 1099511627776) (hr : r.length < 1099511627776) : Ev (fun k => impl_FitsRose.f k w r n) (pFits w r n) := by
  have j1 : Ev (fun k => impl_FitsRose.j0 k w r n true) false := by
    refine ev_succ ?_
    simp only [impl_FitsRose.j0, if_true]; exact Ev.now _
  unfold impl_FitsRose.f pFits
  refine Ev.bind (impl_IsWind_ev w hw) ?_
  refine ev_ite (fun c => ?_) (fun c => ?_)
  · refine Ev.bind (impl_IsRose_ev r hr) ?_
    refine ev_ite (fun c2 => ?_) (fun c2 => ?_)
    · by_cases h : n > 128
      · rw [if_neg (by omega)]; simpa only [decide_eq_true h] using j1
      · rw [if_pos ⟨c, c2, by omega⟩, decide_eq_false h]
        refine ev_succ ?_
        simp only [impl_FitsRose.j0, Bool.false_eq_true, if_false]
        by_cases hn : 0 ≤ n
        · exact impl_FitsRose_l0 w r n c hr (by omega) n.toNat 0 (by omega) (by omega)
        · rw [show n.toNat = 0 by omega, fitsN]
          refine ev_succ ?_
          simp only [impl_FitsRose.l0, if_neg (show ¬ (0 < n) by omega)]
          exact Ev.now _
    · rw [if_neg (fun h => c2 h.2.1)]; exact j1
  · rw [if_neg (fun h => c h.1)]; exact j1
theorem FnExactFitsRose : laws_FnExactFitsRose.Pure := by
  intro l r n hml _ _ hmr _ _ _
  refine Ev.rounds ?_
  simp only [laws_FnExactFitsRose.f, laws_szGustS_eq l 1048576 (by omega) (by omega) hml, Option.bind_some]
  refine ev_ite (fun _ => Ev.now _) (fun h => ?_)
  have hll : (l.length : Int) ≤ 1048576 := by
    refine Decidable.byContradiction fun hn => h ?_
    rw [if_pos (by omega)]; omega
  rw [if_neg (by omega)]
  simp only [laws_szPlaceS_eq r (1048576 - (l.length : Int)) (by omega) (by omega) hmr, Option.bind_some]
  refine ev_ite (fun _ => Ev.now _) (fun h => ?_)
  have hlr : (r.length : Int) ≤ 1048576 := by
    refine Decidable.byContradiction fun hn => h ?_
    rw [if_pos (by omega)]; omega
  have hl : l.length < 1099511627776 := by omega
  have hr : r.length < 1099511627776 := by omega
  have hl' : (l.map cvG).length < 1099511627776 := by simp; omega
  have hr' : (r.map cvP).length < 1099511627776 := by simp; omega
  refine Ev.bind (laws_toGustS_ev l hl) ?_
  refine Ev.bind (laws_toPlaceS_ev r hr) ?_
  refine Ev.bind (spec_FitsRose_ev _ _ n hl' hr') ?_
  refine Ev.bind (laws_toGustS_ev l hl) ?_
  refine Ev.bind (laws_toPlaceS_ev r hr) ?_
  refine Ev.bind (impl_FitsRose_ev _ _ n hl' hr') ?_
  simp only [bne_self_eq_false, Bool.false_eq_true, if_false]
  refine Ev.bind (laws_toGustS_ev l hl) ?_
  refine Ev.bind (laws_eqGustS_rfl _ hl') ?_
  simp only [if_true]
  refine Ev.bind (laws_toPlaceS_ev r hr) ?_
  refine Ev.bind (laws_eqPlaceS_rfl _ hr') ?_
  exact Ev.now _

end Go.Proofs.Ytcfkaoibghhahaa.Pure
