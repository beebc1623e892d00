/- The law FnExactJoinWinds comes to true for every input: The program's JoinWinds returns what the reference's returns, for all arguments. No condition beside the statement's own. -/
import Derived.Test.YtcfkaoibghhahaaStFnExactJoinWinds
namespace Go.Proofs.Ytcfkaoibghhahaa.Pure
open Go Go.RowKit Go.Proofs.Ytcfkaoibghhahaa.MFnExactJoinWinds Go.Proofs.YtcfkaoibghhahaaW.PrintWords Go.Proofs.YtcfkaoibghhahaaW.PrintLast Go.Proofs.YtcfkaoibghhahaaW.PrintMore
set_option linter.unusedVariables false
set_option linter.unusedSimpArgs false

theorem ev_succ {α : Type} {g : Nat → Option α} {r : α} (h : Ev (fun k => g (k + 1)) r) : Ev g r := Ev.step (fun _ => rfl) h
theorem ev_ite {α : Type} {c : Prop} [Decidable c] {f g : Nat → Option α} {r : α} (h : c → Ev f r) (h' : ¬ c → Ev g r) : Ev (fun k => if c then f k else g k) r := by
  by_cases hc : c
  · simp only [if_pos hc]; exact h hc
  · simp only [if_neg hc]; exact h' hc
theorem ix {α : Type} {l pre t : List α} {a : α} (h : l = pre ++ a :: t) (hl : l.length < 4611686018427387904) :
    (pre.length : Int) < (l.length : Int) ∧ (∀ d, l.getD pre.length d = a) ∧ wrap64 ((pre.length : Int) + 1) = ((pre ++ [a]).length : Int) ∧ l = (pre ++ [a]) ++ t := by
  subst h
  simp only [List.length_append, List.length_cons, List.length_nil] at *
  refine ⟨by omega, fun d => by simp [List.getD], by unfold wrap64; omega, by simp⟩
theorem ixn {α : Type} {l pre : List α} (h : l = pre ++ []) : ¬ (pre.length : Int) < (l.length : Int) := by
  subst h; simp
theorem nn (n : Nat) : (0 : Int) ≤ (n : Int) := Int.natCast_nonneg n
theorem w64 {n : Int} (h0 : -9223372036854775808 ≤ n) (h1 : n < 9223372036854775808) : wrap64 n = n := by unfold wrap64; omega
theorem mn_min (a b : Int) : mn a b = min a b := by unfold mn; omega
theorem mx_max (a b : Int) : mx a b = max a b := by unfold mx; omega
theorem set_app {α : Type} (pre t : List α) (a b : α) : (pre ++ a :: t).set pre.length b = pre ++ b :: t := by simp
theorem app1 {α : Type} (pre : List α) (a : α) (t : List α) : pre ++ a :: t = (pre ++ [a]) ++ t := by simp

/-- The numbers from c on, n of them. -/
def upto : Nat → Int → List Int
  | 0, _ => []
  | n + 1, c => c :: upto n (c + 1)
theorem upto_length : ∀ n c, (upto n c).length = n
  | 0, _ => rfl
  | n + 1, c => by simp [upto, upto_length n]

theorem spec_l1In_eq (a b c : Int) : spec_l1In.f a b c = some (decide (b ≤ a) && decide (a ≤ c)) := by
  unfold spec_l1In.f; split <;> simp <;> omega
theorem impl_isWithin_eq (a b c : Int) : impl_isWithin.f a b c = some (decide (b ≤ a) && decide (a ≤ c)) := by
  unfold impl_isWithin.f; split <;> simp <;> omega
abbrev Gu := S69
abbrev Pl := S25
abbrev LGu := S73
theorem ix2 {α : Type} {l pre t : List α} {p a : α} (h : l = (pre ++ [p]) ++ a :: t) (hl : l.length < 4611686018427387904) :
    (((pre ++ [p]).length : Int)) > 0 ∧ wrap64 (((pre ++ [p]).length : Int) - 1) = (pre.length : Int) ∧ (∀ d, l.getD pre.length d = p) ∧ (pre.length : Int) < (l.length : Int) := by
  subst h
  simp only [List.length_append, List.length_cons, List.length_nil] at *
  refine ⟨by omega, by unfold wrap64; omega, fun d => by simp [List.getD], by omega⟩
theorem ev_eq {α : Type} {f g : Nat → Option α} {r : α} (h : f = g) (k : Ev g r) : Ev f r := h ▸ k
def drB (a b : Int) : Bool := (decide (-8 ≤ a) && decide (a ≤ 8)) && (decide (-8 ≤ b) && decide (b ≤ 8))
theorem spec_l4Drift_eq (a b : Int) : spec_l4Drift.f a b = some (drB a b) := by
  simp only [spec_l4Drift.f, spec_l1In_eq, Option.bind_some, drB]
  cases (decide (-8 ≤ a) && decide (a ≤ 8)) <;> simp
def drB' (a b : Int) : Bool := (decide (-8 ≤ a) && decide (a ≤ 8)) && (decide (-8 ≤ b) && decide (b ≤ 8))
theorem impl_isDrift_eq (a b : Int) : impl_isDrift.f a b = some (drB' a b) := by
  simp only [impl_isDrift.f, impl_isWithin_eq, Option.bind_some, drB']
  cases (decide (-8 ≤ a) && decide (a ≤ 8)) <;> simp
def gDr (a b : Int) : Bool := (decide (-8 ≤ a) && decide (a ≤ 8)) && (decide (-8 ≤ b) && decide (b ≤ 8))
def gOk (g : Gu) : Bool := (decide (0 ≤ g.f0) && decide (g.f0 ≤ 64)) && gDr g.f1.f0 g.f1.f1
/-- The gusts behind one. -/
def wRest : Gu → List Gu → Bool
  | _, [] => true
  | p, g :: t => gOk g && (decide (p.f0 < g.f0) && wRest g t)
def wAll : List Gu → Bool
  | [] => true
  | g :: t => gOk g && wRest g t
/-- IsWind -/
def pWind (l : List Gu) : Bool := wAll l && decide ((l.length : Int) ≤ 8)
theorem pWind_len {l : List Gu} (h : pWind l = true) : l.length ≤ 8 := by
  simp only [pWind, Bool.and_eq_true, decide_eq_true_eq] at h; omega
/-- The drift at a tick. -/
def pAt (d : Int × Int) (w : List Gu) (t : Int) : Int × Int := w.foldl (fun d g => if g.f0 ≤ t then (g.f1.f0, g.f1.f1) else d) d
theorem spec_IsWind_l0 (l : List Gu) (hl : l.length < 1099511627776) : ∀ (suf pre : List Gu) (p : Gu), l = (pre ++ [p]) ++ suf →
    Ev (fun k => spec_IsWind.l0 k l l (l.length : Int) ((pre ++ [p]).length : Int)) (wRest p suf && decide ((l.length : Int) ≤ 8)) := by
  intro suf
  induction suf with
  | nil =>
    intro pre p h
    refine ev_succ ?_
    simp only [spec_IsWind.l0, if_neg (ixn h), wRest, Bool.true_and]
    exact Ev.now _
  | cons a t ih =>
    intro pre p h
    obtain ⟨h1, h2, h3, h4⟩ := ix h (by omega)
    obtain ⟨h5, h6, h7, h8⟩ := ix2 h (by omega)
    refine ev_succ ?_
    simp only [spec_IsWind.l0, if_pos h1, if_pos (nn _), Int.toNat_natCast, rd_T69, h2, h3, h6, h7, spec_l1In_eq, spec_l4Drift_eq, Option.bind_some, if_pos h5, if_pos h8]
    rw [wRest, gOk]
    change Ev (fun k => if (decide (0 ≤ a.f0) && decide (a.f0 ≤ 64)) = true then if gDr a.f1.f0 a.f1.f1 = true then _ else _ else _) _
    refine ev_ite (fun c1 => ?_) (fun c1 => ?_)
    · rw [c1, Bool.true_and]
      refine ev_ite (fun c2 => ?_) (fun c2 => ?_)
      · rw [c2, Bool.true_and]
        refine ev_ite (fun c3 => ?_) (fun c3 => ?_)
        · rw [decide_eq_false (by omega), Bool.false_and, Bool.false_and]; exact Ev.now _
        · rw [decide_eq_true (by omega), Bool.true_and]; exact ih (pre ++ [p]) a h4
      · rw [Bool.eq_false_iff.2 c2, Bool.false_and, Bool.false_and]; exact Ev.now _
    · rw [Bool.eq_false_iff.2 c1, Bool.false_and, Bool.false_and, Bool.false_and]; exact Ev.now _
theorem spec_IsWind_ev (l : List Gu) (hl : l.length < 1099511627776) : Ev (fun k => spec_IsWind.f k l) (pWind l) := by
  unfold spec_IsWind.f pWind
  refine ev_succ ?_
  cases l with
  | nil =>
    simp only [spec_IsWind.l0]
    exact Ev.now _
  | cons a t =>
    obtain ⟨h1, h2, h3, h4⟩ := ix (l := a :: t) (pre := []) rfl (by omega)
    simp only [List.length_nil, Int.natCast_zero] at h1 h2 h3
    simp only [spec_IsWind.l0, if_pos h1, if_pos (show (0 : Int) ≤ 0 by omega), Int.toNat_zero, rd_T69, h2, h3, spec_l1In_eq, spec_l4Drift_eq, Option.bind_some, if_neg (show ¬ ((0 : Int) > 0) by omega)]
    rw [wAll, gOk]
    change Ev (fun k => if (decide (0 ≤ a.f0) && decide (a.f0 ≤ 64)) = true then if gDr a.f1.f0 a.f1.f1 = true then _ else _ else _) _
    refine ev_ite (fun c1 => ?_) (fun c1 => ?_)
    · rw [c1, Bool.true_and]
      refine ev_ite (fun c2 => ?_) (fun c2 => ?_)
      · rw [c2, Bool.true_and]
        exact spec_IsWind_l0 (a :: t) hl t [] a rfl
      · rw [Bool.eq_false_iff.2 c2, Bool.false_and, Bool.false_and]; exact Ev.now _
    · rw [Bool.eq_false_iff.2 c1, Bool.false_and, Bool.false_and, Bool.false_and]; exact Ev.now _
theorem impl_IsWind_l0 (l : List Gu) (hl : l.length < 1099511627776) : ∀ (suf pre : List Gu) (p : Gu), l = (pre ++ [p]) ++ suf →
    Ev (fun k => impl_IsWind.l0 k l l (l.length : Int) ((pre ++ [p]).length : Int)) (wRest p suf && decide ((l.length : Int) ≤ 8)) := by
  intro suf
  induction suf with
  | nil =>
    intro pre p h
    refine ev_succ ?_
    simp only [impl_IsWind.l0, if_neg (ixn h), wRest, Bool.true_and]
    exact Ev.now _
  | cons a t ih =>
    intro pre p h
    obtain ⟨h1, h2, h3, h4⟩ := ix h (by omega)
    obtain ⟨h5, h6, h7, h8⟩ := ix2 h (by omega)
    refine ev_succ ?_
    simp only [impl_IsWind.l0, if_pos h1, if_pos (nn _), Int.toNat_natCast, rd_T69, h2, h3, h6, h7, impl_isWithin_eq, impl_isDrift_eq, Option.bind_some, if_pos h5, if_pos h8]
    rw [wRest, gOk]
    change Ev (fun k => if (decide (0 ≤ a.f0) && decide (a.f0 ≤ 64)) = true then if gDr a.f1.f0 a.f1.f1 = true then _ else _ else _) _
    refine ev_ite (fun c1 => ?_) (fun c1 => ?_)
    · rw [c1, Bool.true_and]
      refine ev_ite (fun c2 => ?_) (fun c2 => ?_)
      · rw [c2, Bool.true_and]
        refine ev_ite (fun c3 => ?_) (fun c3 => ?_)
        · rw [decide_eq_false (by omega), Bool.false_and, Bool.false_and]; exact Ev.now _
        · rw [decide_eq_true (by omega), Bool.true_and]; exact ih (pre ++ [p]) a h4
      · rw [Bool.eq_false_iff.2 c2, Bool.false_and, Bool.false_and]; exact Ev.now _
    · rw [Bool.eq_false_iff.2 c1, Bool.false_and, Bool.false_and, Bool.false_and]; exact Ev.now _
theorem impl_IsWind_ev (l : List Gu) (hl : l.length < 1099511627776) : Ev (fun k => impl_IsWind.f k l) (pWind l) := by
  unfold impl_IsWind.f pWind
  refine ev_succ ?_
  cases l with
  | nil =>
    simp only [impl_IsWind.l0]
    exact Ev.now _
  | cons a t =>
    obtain ⟨h1, h2, h3, h4⟩ := ix (l := a :: t) (pre := []) rfl (by omega)
    simp only [List.length_nil, Int.natCast_zero] at h1 h2 h3
    simp only [impl_IsWind.l0, if_pos h1, if_pos (show (0 : Int) ≤ 0 by omega), Int.toNat_zero, rd_T69, h2, h3, impl_isWithin_eq, impl_isDrift_eq, Option.bind_some, if_neg (show ¬ ((0 : Int) > 0) by omega)]
    rw [wAll, gOk]
    change Ev (fun k => if (decide (0 ≤ a.f0) && decide (a.f0 ≤ 64)) = true then if gDr a.f1.f0 a.f1.f1 = true then _ else _ else _) _
    refine ev_ite (fun c1 => ?_) (fun c1 => ?_)
    · rw [c1, Bool.true_and]
      refine ev_ite (fun c2 => ?_) (fun c2 => ?_)
      · rw [c2, Bool.true_and]
        exact impl_IsWind_l0 (a :: t) hl t [] a rfl
      · rw [Bool.eq_false_iff.2 c2, Bool.false_and, Bool.false_and]; exact Ev.now _
    · rw [Bool.eq_false_iff.2 c1, Bool.false_and, Bool.false_and, Bool.false_and]; exact Ev.now _
theorem spec_l4At_l0 (l : List Gu) (u : Int) (hl : l.length < 1099511627776) : ∀ (suf pre : List Gu) (d1 d2 : Int), l = pre ++ suf →
    Ev (fun k => spec_l4At.l0 k u l (l.length : Int) (pre.length : Int) d1 d2) (pAt (d1, d2) suf u) := by
  intro suf
  induction suf with
  | nil =>
    intro pre d1 d2 h
    refine ev_succ ?_
    simp only [spec_l4At.l0, if_neg (ixn h)]
    exact Ev.now _
  | cons a t ih =>
    intro pre d1 d2 h
    obtain ⟨h1, h2, h3, h4⟩ := ix h (by omega)
    refine ev_succ ?_
    simp only [spec_l4At.l0, if_pos h1, if_pos (nn _), Int.toNat_natCast, rd_T69, h2, h3]
    rw [pAt, List.foldl_cons]
    refine ev_ite (fun c => ?_) (fun c => ?_)
    · rw [if_pos c]; exact ih _ _ _ h4
    · rw [if_neg c]; exact ih _ _ _ h4
theorem spec_l4At_ev (l : List Gu) (u : Int) (hl : l.length < 1099511627776) : Ev (fun k => spec_l4At.f k l u) (pAt (0, 0) l u) := spec_l4At_l0 l u hl l [] 0 0 rfl
theorem impl_DriftAt_l0 (l : List Gu) (u : Int) (hl : l.length < 1099511627776) : ∀ (suf pre : List Gu) (d1 d2 : Int), l = pre ++ suf →
    Ev (fun k => impl_DriftAt.l0 k u l (l.length : Int) (pre.length : Int) d1 d2) (pAt (d1, d2) suf u) := by
  intro suf
  induction suf with
  | nil =>
    intro pre d1 d2 h
    refine ev_succ ?_
    simp only [impl_DriftAt.l0, if_neg (ixn h)]
    exact Ev.now _
  | cons a t ih =>
    intro pre d1 d2 h
    obtain ⟨h1, h2, h3, h4⟩ := ix h (by omega)
    refine ev_succ ?_
    simp only [impl_DriftAt.l0, if_pos h1, if_pos (nn _), Int.toNat_natCast, rd_T69, h2, h3]
    rw [pAt, List.foldl_cons]
    refine ev_ite (fun c => ?_) (fun c => ?_)
    · rw [if_pos c]; exact ih _ _ _ h4
    · rw [if_neg c]; exact ih _ _ _ h4
theorem impl_DriftAt_ev (l : List Gu) (u : Int) (hl : l.length < 1099511627776) : Ev (fun k => impl_DriftAt.f k l u) (if pWind l = true then pAt (0, 0) l u else (0, 0)) := by
  unfold impl_DriftAt.f
  refine Ev.bind (impl_IsWind_ev l hl) ?_
  refine ev_ite (fun c => ?_) (fun c => ?_)
  · rw [if_pos c]; exact impl_DriftAt_l0 l u hl l [] 0 0 rfl
  · rw [if_neg c]; exact Ev.now _
theorem impl_DriftAt_ok {l : List Gu} (h : pWind l = true) (u : Int) : Ev (fun k => impl_DriftAt.f k l u) (pAt (0, 0) l u) := by
  have := impl_DriftAt_ev l u (by have := pWind_len h; omega)
  rwa [if_pos h] at this
theorem laws_toPlace_eq (a b : Int) : laws_toPlace.f a b = some (a, b) := rfl
theorem laws_toGust_eq (a b c : Int) : laws_toGust.f a b c = some (a, b, c) := rfl
def cvG (g : LGu) : Gu := ⟨g.f0, ⟨g.f1.f0, g.f1.f1⟩⟩
theorem laws_toGustS_l0 (l : List LGu) (hl : l.length < 1099511627776) : ∀ (suf pre : List LGu), l = pre ++ suf →
    Ev (fun k => laws_toGustS.l0 k l (pre.map cvG ++ List.replicate suf.length z69) (pre.length : Int)) (l.map cvG) := by
  intro suf
  induction suf with
  | nil =>
    intro pre h
    refine ev_succ ?_
    simp only [laws_toGustS.l0, if_neg (ixn h)]
    simpa [h] using Ev.now (l.map cvG)
  | cons a t ih =>
    intro pre h
    obtain ⟨h1, h2, h3, h4⟩ := ix h (by omega)
    refine ev_succ ?_
    have h5 : (pre.length : Int) < ((pre.map cvG ++ List.replicate (a :: t).length z69).length : Int) := by simp; omega
    simp only [laws_toGustS.l0, if_pos h1, if_pos (nn _), laws_toGust_eq, Option.bind_some, if_pos h5, Int.toNat_natCast, rd_T73, h2, h3]
    have := ih (pre ++ [a]) h4
    have hp : pre.length = (pre.map cvG).length := by simp
    rw [List.length_cons, List.replicate_succ, hp, set_app]
    simpa [cvG] using this
theorem laws_toGustS_ev (l : List LGu) (hl : l.length < 1099511627776) : Ev (fun k => laws_toGustS.f k l) (l.map cvG) := by
  have := laws_toGustS_l0 l hl l [] rfl
  simp only [laws_toGustS.f, if_pos (nn _), Int.toNat_natCast, if_pos (show l.length ≤ 11728124029610 by omega)]
  simpa using this
theorem laws_eqPlace_rfl (a b : Int) : laws_eqPlace.f a b a b = some true := by simp [laws_eqPlace.f]
theorem laws_eqGust_rfl (a b c : Int) : laws_eqGust.f a b c a b c = some true := by simp [laws_eqGust.f, laws_eqPlace_rfl]
theorem laws_eqGustS_l0 (x : List Gu) (hl : x.length < 1099511627776) : ∀ (d i : Nat), i + d = x.length → Ev (fun k => laws_eqGustS.l0 k x x (i : Int)) true := by
  intro d
  induction d with
  | zero =>
    intro i h
    refine ev_succ ?_
    simp only [laws_eqGustS.l0, if_neg (show ¬ ((i : Int) < (x.length : Int)) by omega)]
    exact Ev.now _
  | succ d ih =>
    intro i h
    refine ev_succ ?_
    simp only [laws_eqGustS.l0, if_pos (show ((i : Int) < (x.length : Int)) by omega), if_pos (nn _), laws_eqGust_rfl, Option.bind_some, if_true]
    rw [show wrap64 ((i : Int) + 1) = ((i + 1 : Nat) : Int) by unfold wrap64; omega]
    exact ih (i + 1) (by omega)
theorem laws_eqGustS_rfl (x : List Gu) (hl : x.length < 1099511627776) : Ev (fun k => laws_eqGustS.f k x x) true := by
  simp only [laws_eqGustS.f, if_true]
  exact laws_eqGustS_l0 x hl x.length 0 (by omega)
theorem laws_szGustS_eq (l : List LGu) (n : Int) (hn : 0 ≤ n) (hn2 : n ≤ 1048576) (hl : l.length ≤ maxLen) : laws_szGustS.f l n = some (if n - (l.length : Int) < 0 then -1 else n - (l.length : Int)) := by
  have : (l.length : Int) ≤ 9223372036854775807 := by have : maxLen = 9223372036854775807 := rfl; omega
  unfold laws_szGustS.f
  rw [show wrap64 (n - (l.length : Int)) = n - (l.length : Int) by unfold wrap64; omega]
  split <;> rfl
def gUpto : Nat → Int → List Gu
  | 0, _ => []
  | n + 1, c => ⟨c, ⟨c + 1, c + 2⟩⟩ :: gUpto n (c + 3)
theorem gUpto_length : ∀ n c, (gUpto n c).length = n
  | 0, _ => rfl
  | n + 1, c => by simp [gUpto, gUpto_length n]
theorem laws_markGustS_l0 : ∀ (suf pre : List Gu) (c : Int), 0 ≤ c → pre.length + suf.length < 1099511627776 → c + 3 * suf.length < 4611686018427387904 →
    Ev (fun k => laws_markGustS.l0 k (pre ++ suf) c (pre.length : Int)) (c + 3 * suf.length, pre ++ gUpto suf.length c) := by
  intro suf
  induction suf with
  | nil =>
    intro pre c _ _ _
    refine ev_succ ?_
    simp only [laws_markGustS.l0, if_neg (ixn (pre := pre) rfl)]
    simpa [gUpto] using Ev.now (c, pre)
  | cons a t ih =>
    intro pre c h0 hl hm
    simp only [List.length_cons] at hl hm
    obtain ⟨h1, h2, h3, h4⟩ := ix (l := pre ++ a :: t) rfl (by simp; omega)
    refine ev_succ ?_
    have hg : ∀ (b d : Gu), (pre ++ b :: t).getD pre.length d = b := fun b d => by simp [List.getD]
    simp only [laws_markGustS.l0, if_pos h1, if_pos (nn _), Int.toNat_natCast, set_app, Option.bind_some, rd_T69, hg]
    rw [show wrap64 (c + 1) = c + 1 by unfold wrap64; omega, show wrap64 (c + 1 + 1) = c + 2 by unfold wrap64; omega, show wrap64 (c + 2 + 1) = c + 3 by unfold wrap64; omega, show wrap64 ((pre.length : Int) + 1) = ((pre ++ [(⟨c, ⟨c + 1, c + 2⟩⟩ : Gu)]).length : Int) by simp; unfold wrap64; omega, app1]
    have := ih (pre ++ [⟨c, ⟨c + 1, c + 2⟩⟩]) (c + 3) (by omega) (by simp; omega) (by omega)
    simp only [List.length_cons, gUpto, List.append_assoc, List.singleton_append] at this ⊢
    rwa [show c + 3 * ((t.length + 1 : Nat) : Int) = c + 3 + 3 * t.length by omega]
theorem laws_markGustS_ev (l : List Gu) (c : Int) (hl : l.length < 1099511627776) (h0 : 0 ≤ c) (h1 : c < 4611686018427) : Ev (fun k => laws_markGustS.f k l c) (c + 3 * l.length, gUpto l.length c) := by
  have := laws_markGustS_l0 l [] c h0 (by simp; omega) (by omega)
  simpa [laws_markGustS.f] using this
theorem laws_heldGustS_l0 : ∀ (n : Nat) (pre : List Gu) (c : Int), 0 ≤ c → pre.length + n < 1099511627776 → c + 3 * n < 4611686018427387904 →
    Ev (fun k => laws_heldGustS.l0 k (pre ++ gUpto n c) c (pre.length : Int)) (c + 3 * n) := by
  intro n
  induction n with
  | zero =>
    intro pre c _ _ _
    refine ev_succ ?_
    simp only [laws_heldGustS.l0, gUpto, List.append_nil, if_neg (show ¬ ((pre.length : Int) < (pre.length : Int)) by omega)]
    simpa using Ev.now c
  | succ n ih =>
    intro pre c h0 hl hm
    obtain ⟨h1, h2, h3, h4⟩ := ix (l := pre ++ ⟨c, ⟨c + 1, c + 2⟩⟩ :: gUpto n (c + 3)) rfl (by simp [gUpto_length]; omega)
    refine ev_succ ?_
    simp only [laws_heldGustS.l0, gUpto, if_pos h1, if_pos (nn _), Int.toNat_natCast, rd_T69, h2, h3, if_true]
    rw [show wrap64 (c + 1) = c + 1 by unfold wrap64; omega, show wrap64 (c + 1 + 1) = c + 2 by unfold wrap64; omega, show wrap64 (c + 2 + 1) = c + 3 by unfold wrap64; omega, app1]
    simp only [if_true]
    have := ih (pre ++ [⟨c, ⟨c + 1, c + 2⟩⟩]) (c + 3) (by omega) (by simp; omega) (by omega)
    rwa [show c + 3 * ((n + 1 : Nat) : Int) = c + 3 + 3 * n by omega]
theorem laws_heldGustS_ev (n : Nat) (hl : n < 1099511627776) : Ev (fun k => laws_heldGustS.f k (gUpto n 1) 1) (1 + 3 * n) := by
  have := laws_heldGustS_l0 n [] 1 (by omega) (by simp; omega) (by omega)
  simpa [laws_heldGustS.f] using this
/-- Those gusts that change the drift. -/
def chg : Int × Int → List Gu → List Gu
  | _, [] => []
  | d, g :: t => if (g.f1.f0, g.f1.f1) = d then chg d t else g :: chg (g.f1.f0, g.f1.f1) t
/-- The gusts of a list of drifts, from tick i on. -/
def frm : Int → Int × Int → List Pl → List Gu
  | _, _, [] => []
  | i, d, p :: t => if (p.f0, p.f1) = d then frm (i + 1) d t else ⟨i, ⟨p.f0, p.f1⟩⟩ :: frm (i + 1) (p.f0, p.f1) t
/-- The drifts that f tells, n of them, from tick s on. -/
def lstF (f : Int → Int × Int) : Nat → Int → List Pl
  | 0, _ => []
  | n + 1, s => ⟨(f s).1, (f s).2⟩ :: lstF f n (s + 1)
theorem lstF_length (f : Int → Int × Int) : ∀ n s, (lstF f n s).length = n
  | 0, _ => rfl
  | n + 1, s => by simp [lstF, lstF_length f n]
theorem lstF_congr {f g : Int → Int × Int} : ∀ (n : Nat) (s : Int), (∀ t, s ≤ t → t < s + n → f t = g t) → lstF f n s = lstF g n s
  | 0, _, _ => rfl
  | n + 1, s, h => by
    rw [lstF, lstF, h s (by omega) (by omega), lstF_congr n (s + 1) (fun t h1 h2 => h t (by omega) (by omega))]
theorem chg_length : ∀ (w : List Gu) (d : Int × Int), (chg d w).length ≤ w.length
  | [], _ => by simp [chg]
  | g :: t, d => by
    unfold chg
    split
    · have := chg_length t d; simp; omega
    · have := chg_length t (g.f1.f0, g.f1.f1); simp; omega
theorem frm_length : ∀ (l : List Pl) (i : Int) (d : Int × Int), (frm i d l).length ≤ l.length
  | [], _, _ => by simp [frm]
  | p :: t, i, d => by
    unfold frm
    split
    · have := frm_length t (i + 1) d; simp; omega
    · have := frm_length t (i + 1) (p.f0, p.f1); simp; omega
def asc : Int → List Gu → Prop
  | _, [] => True
  | s, g :: t => s ≤ g.f0 ∧ asc (g.f0 + 1) t
theorem asc_le : ∀ {w : List Gu} {s s' : Int}, s' ≤ s → asc s w → asc s' w
  | [], _, _, _, _ => trivial
  | g :: t, s, s', h, k => ⟨Int.le_trans h k.1, k.2⟩
theorem asc_mem : ∀ {w : List Gu} {s : Int}, asc s w → ∀ g ∈ w, s ≤ g.f0
  | [], _, _, g, hg => by simp at hg
  | a :: t, s, h, g, hg => by
    rcases List.mem_cons.1 hg with rfl | hg
    · exact h.1
    · have := asc_mem h.2 g hg
      have := h.1
      omega
theorem pAt_before : ∀ {w : List Gu} {s : Int} (d : Int × Int) (t : Int), asc s w → t < s → pAt d w t = d
  | [], _, _, _, _, _ => rfl
  | g :: w, s, d, t, h, ht => by
    have h1 := h.1
    rw [pAt, List.foldl_cons, if_neg (by omega)]
    exact pAt_before d t h.2 (by omega)
theorem pAt_cons (d : Int × Int) (g : Gu) (w : List Gu) (t : Int) : pAt d (g :: w) t = pAt (if g.f0 ≤ t then (g.f1.f0, g.f1.f1) else d) w t := rfl
/-- What changes, told by the drifts alone. -/
theorem chg_frm : ∀ (n : Nat) (s : Int) (d : Int × Int) (w : List Gu), asc s w → (∀ g ∈ w, g.f0 < s + n) → chg d w = frm s d (lstF (pAt d w) n s) := by
  intro n
  induction n with
  | zero =>
    intro s d w ha hb
    cases w with
    | nil => rfl
    | cons g t =>
      have := hb g (by simp)
      have := ha.1
      omega
  | succ n ih =>
    intro s d w ha hb
    rw [lstF, frm]
    cases w with
    | nil =>
      have h1 : pAt d [] s = d := rfl
      rw [h1, if_pos rfl]
      exact ih (s + 1) d [] trivial (fun g hg => by simp at hg)
    | cons g t =>
      have ha1 := ha.1
      by_cases hg : g.f0 = s
      · have h1 : pAt d (g :: t) s = (g.f1.f0, g.f1.f1) := by
          rw [pAt_cons, if_pos (by omega)]
          exact pAt_before _ s ha.2 (by omega)
        have h2 : lstF (pAt d (g :: t)) n (s + 1) = lstF (pAt (g.f1.f0, g.f1.f1) t) n (s + 1) := by
          refine lstF_congr n (s + 1) (fun t' h3 h4 => ?_)
          rw [pAt_cons, if_pos (by omega)]
        have h3 := ih (s + 1) (g.f1.f0, g.f1.f1) t (by have := ha.2; rwa [hg] at this) (fun g' hg' => by have := hb g' (by simp [hg']); omega)
        rw [h1, h2, chg]
        by_cases hd : (g.f1.f0, g.f1.f1) = d
        · rw [if_pos hd, if_pos hd, ← hd]; exact h3
        · rw [if_neg hd, if_neg hd, h3, ← hg]
      · have h1 : pAt d (g :: t) s = d := by
          rw [pAt_cons, if_neg (by omega)]
          exact pAt_before _ s ha.2 (by omega)
        rw [h1, if_pos rfl]
        exact ih (s + 1) d (g :: t) ⟨by omega, ha.2⟩ (fun g' hg' => by have := hb g' hg'; omega)
theorem pAt_chg : ∀ (w : List Gu) (s : Int) (d : Int × Int) (t : Int), asc s w → pAt d (chg d w) t = pAt d w t
  | [], _, _, _, _ => rfl
  | g :: w, s, d, t, h => by
    rw [chg]
    by_cases hd : (g.f1.f0, g.f1.f1) = d
    · rw [if_pos hd, pAt_chg w _ d t h.2, pAt_cons, hd]
      congr 1; split <;> rfl
    · rw [if_neg hd, pAt_cons, pAt_cons]
      by_cases ht : g.f0 ≤ t
      · rw [if_pos ht]; exact pAt_chg w _ _ t h.2
      · rw [if_neg ht]
        have hc : asc (g.f0 + 1) (chg (g.f1.f0, g.f1.f1) w) := by
          have : ∀ (w : List Gu) (s : Int) (d : Int × Int), asc s w → asc s (chg d w) := by
            intro w
            induction w with
            | nil => intro s d _; trivial
            | cons a w ih =>
              intro s d h
              have := h.1
              rw [chg]
              split
              · exact asc_le (show s ≤ a.f0 + 1 by omega) (ih _ d h.2)
              · exact ⟨h.1, ih _ _ h.2⟩
          exact this w _ _ h.2
        rw [pAt_before d t hc (by omega), pAt_before d t h.2 (by omega)]
theorem asc_chg : ∀ (w : List Gu) (s : Int) (d : Int × Int), asc s w → asc s (chg d w)
  | [], _, _, _ => trivial
  | a :: w, s, d, h => by
    have := h.1
    rw [chg]
    split
    · exact asc_le (show s ≤ a.f0 + 1 by omega) (asc_chg w _ d h.2)
    · exact ⟨h.1, asc_chg w _ _ h.2⟩
theorem chg_mem : ∀ (w : List Gu) (d : Int × Int), ∀ g ∈ chg d w, g ∈ w
  | [], _, g, hg => by simp [chg] at hg
  | a :: w, d, g, hg => by
    rw [chg] at hg
    split at hg
    · exact List.mem_cons_of_mem _ (chg_mem w d g hg)
    · rcases List.mem_cons.1 hg with rfl | hg
      · simp
      · exact List.mem_cons_of_mem _ (chg_mem w _ g hg)
theorem chg_idem : ∀ (w : List Gu) (d : Int × Int), chg d (chg d w) = chg d w
  | [], _ => rfl
  | a :: w, d => by
    rw [chg]
    split
    · exact chg_idem w d
    · rename_i h
      rw [chg, if_neg h, chg_idem w]
theorem wRest_iff : ∀ (t : List Gu) (p : Gu), wRest p t = true ↔ asc (p.f0 + 1) t ∧ ∀ g ∈ t, gOk g = true
  | [], p => by simp [wRest, asc]
  | a :: t, p => by
    simp only [wRest, Bool.and_eq_true, decide_eq_true_eq, wRest_iff t a, asc, List.mem_cons, forall_eq_or_imp]
    constructor
    · rintro ⟨h1, h2, h3, h4⟩; exact ⟨⟨by omega, h3⟩, h1, h4⟩
    · rintro ⟨⟨h1, h2⟩, h3, h4⟩; exact ⟨h3, by omega, h2, h4⟩
theorem gOk_from {g : Gu} (h : gOk g = true) : 0 ≤ g.f0 ∧ g.f0 ≤ 64 := by
  simp only [gOk, Bool.and_eq_true, decide_eq_true_eq] at h; exact h.1
theorem pWind_iff (w : List Gu) : pWind w = true ↔ (asc 0 w ∧ ∀ g ∈ w, gOk g = true) ∧ w.length ≤ 8 := by
  cases w with
  | nil => simp [pWind, wAll, asc]
  | cons a t =>
    simp only [pWind, wAll, Bool.and_eq_true, decide_eq_true_eq, wRest_iff, asc, List.mem_cons, forall_eq_or_imp]
    constructor
    · rintro ⟨⟨h1, h2, h3⟩, h4⟩; exact ⟨⟨⟨(gOk_from h1).1, h2⟩, h1, h3⟩, by omega⟩
    · rintro ⟨⟨⟨h0, h2⟩, h1, h3⟩, h4⟩; exact ⟨⟨h1, h2, h3⟩, by omega⟩
theorem pWind_chg {w : List Gu} (h : pWind w = true) : pWind (chg (0, 0) w) = true := by
  rw [pWind_iff] at h ⊢
  exact ⟨⟨asc_chg _ _ _ h.1.1, fun g hg => h.1.2 g (chg_mem _ _ g hg)⟩, Nat.le_trans (chg_length _ _) h.2⟩
theorem ev_ne {α : Type} {a b x y : Int} {f g : Nat → Option α} {r : α} (h : (a, b) ≠ (x, y) → Ev f r) (h' : (a, b) = (x, y) → Ev g r) : Ev (fun k => if (!(a == x) || (!(b == y))) = true then f k else g k) r := by
  by_cases e : (a, b) = (x, y)
  · have := Prod.mk.inj e
    rw [show (!(a == x) || (!(b == y))) = false by simp [this.1, this.2]]
    simpa using h' e
  · have : (!(a == x) || (!(b == y))) = true := by
      by_cases h1 : a = x
      · by_cases h2 : b = y
        · exact absurd (by rw [h1, h2]) e
        · simp [h2]
      · simp [h1]
    rw [this]
    simpa using h e
theorem impl_changes_l0 (l : List Gu) (hl : l.length < 1099511627776) : ∀ (suf pre out : List Gu) (x y : Int), l = pre ++ suf → out.length ≤ pre.length →
    Ev (fun k => impl_changes.l0 k out l (l.length : Int) (pre.length : Int) x y) (out ++ chg (x, y) suf) := by
  intro suf
  induction suf with
  | nil =>
    intro pre out x y h ho
    refine ev_succ ?_
    simp only [impl_changes.l0, if_neg (ixn h), chg, List.append_nil]
    exact Ev.now _
  | cons a t ih =>
    intro pre out x y h ho
    obtain ⟨h1, h2, h3, h4⟩ := ix h (by omega)
    refine ev_succ ?_
    simp only [impl_changes.l0, if_pos h1, if_pos (nn _), Int.toNat_natCast, rd_T69, h2, h3, if_pos (show out.length < 5864062014805 by omega)]
    rw [chg]
    refine ev_ne (fun c => ?_) (fun c => ?_)
    · rw [if_neg c]
      have := ih (pre ++ [a]) (out ++ [a]) a.f1.f0 a.f1.f1 h4 (by simp; omega)
      simpa using this
    · rw [if_pos c]
      exact ih (pre ++ [a]) out x y h4 (by simp; omega)
theorem impl_changes_ev (l : List Gu) (hl : l.length < 1099511627776) : Ev (fun k => impl_changes.f k l) (chg (0, 0) l) := impl_changes_l0 l hl l [] [] 0 0 rfl (by simp)
theorem spec_l4From_l0 (l : List Pl) (hl : l.length < 1099511627776) : ∀ (suf pre : List Pl) (out : List Gu) (x y : Int), l = pre ++ suf → out.length ≤ pre.length →
    Ev (fun k => spec_l4From.l0 k out l (l.length : Int) (pre.length : Int) x y) (out ++ frm (pre.length : Int) (x, y) suf) := by
  intro suf
  induction suf with
  | nil =>
    intro pre out x y h ho
    refine ev_succ ?_
    simp only [spec_l4From.l0, if_neg (ixn h), frm, List.append_nil]
    exact Ev.now _
  | cons a t ih =>
    intro pre out x y h ho
    obtain ⟨h1, h2, h3, h4⟩ := ix h (by omega)
    refine ev_succ ?_
    simp only [spec_l4From.l0, if_pos h1, if_pos (nn _), Int.toNat_natCast, rd_T25, h2, h3, if_pos (show out.length < 5864062014805 by omega)]
    rw [frm]
    have e : ((pre ++ [a]).length : Int) = (pre.length : Int) + 1 := by simp
    refine ev_ne (fun c => ?_) (fun c => ?_)
    · rw [if_neg c]
      have := ih (pre ++ [a]) (out ++ [⟨(pre.length : Int), ⟨a.f0, a.f1⟩⟩]) a.f0 a.f1 h4 (by simp; omega)
      rw [e] at this ⊢
      simpa using this
    · rw [if_pos c]
      have := ih (pre ++ [a]) out x y h4 (by simp; omega)
      rw [e] at this ⊢
      exact this
theorem spec_l4From_ev (l : List Pl) (hl : l.length < 1099511627776) : Ev (fun k => spec_l4From.f k l) (frm 0 (0, 0) l) := spec_l4From_l0 l hl l [] [] 0 0 rfl (by simp)
theorem spec_l4List_l0 (w : List Gu) (hw : w.length < 1099511627776) (b : Int) (hb : b < 100000) : ∀ (n : Nat) (a : Int) (out : List Pl), 0 ≤ a → a + n = b + 1 → out.length + n ≤ 1000000 →
    Ev (fun k => spec_l4List.l0 k w b out a) (out ++ lstF (pAt (0, 0) w) n a) := by
  intro n
  induction n with
  | zero =>
    intro a out h0 h ho
    refine ev_succ ?_
    simp only [spec_l4List.l0, if_neg (show ¬ (a ≤ b) by omega), lstF, List.append_nil]
    exact Ev.now _
  | succ n ih =>
    intro a out h0 h ho
    refine ev_succ ?_
    simp only [spec_l4List.l0, if_pos (show (a ≤ b) by omega)]
    refine Ev.bind (spec_l4At_ev w a hw) ?_
    simp only [if_pos (show out.length < 8796093022208 by omega)]
    rw [show wrap64 (a + 1) = a + 1 by unfold wrap64; omega, lstF]
    have := ih (a + 1) (out ++ [⟨(pAt (0, 0) w a).1, (pAt (0, 0) w a).2⟩]) (by omega) (by omega) (by simp; omega)
    simpa using this
theorem spec_l4List_ev (w : List Gu) (hw : w.length < 1099511627776) (a b : Int) (h0 : 0 ≤ a) (hb : b = a + 64) (hb2 : b < 100000) : Ev (fun k => spec_l4List.f k w a b) (lstF (pAt (0, 0) w) 65 a) := by
  have := spec_l4List_l0 w hw b hb2 65 a [] h0 (by omega) (by simp)
  simpa [spec_l4List.f] using this
/-- A wind from a tick on. -/
def fromL (w : List Gu) (n : Int) : List Gu := ⟨n, ⟨(pAt (0, 0) w n).1, (pAt (0, 0) w n).2⟩⟩ :: w.filter (fun g => decide (g.f0 > n))
theorem fromL_length (w : List Gu) (n : Int) : (fromL w n).length ≤ w.length + 1 := by
  have := List.length_filter_le (fun g : Gu => decide (g.f0 > n)) w
  simp [fromL]; omega
theorem filter_asc : ∀ (w : List Gu) (s : Int) (n : Int), asc s w → asc (n + 1) (w.filter (fun g => decide (g.f0 > n)))
  | [], _, _, _ => trivial
  | g :: t, s, n, h => by
    rw [List.filter_cons]
    split
    · rename_i hg
      simp only [decide_eq_true_eq] at hg
      refine ⟨by omega, ?_⟩
      have : t.filter (fun g => decide (g.f0 > n)) = t := by
        refine List.filter_eq_self.2 (fun x hx => ?_)
        have := asc_mem h.2 x hx
        simp; omega
      rw [this]; exact h.2
    · exact filter_asc t _ n h.2
theorem pAt_from : ∀ (w : List Gu) (s : Int) (d : Int × Int) (n t : Int), asc s w → n ≤ t → pAt (pAt d w n) (w.filter (fun g => decide (g.f0 > n))) t = pAt d w t
  | [], _, _, _, _, _, _ => rfl
  | g :: w, s, d, n, t, h, ht => by
    rw [List.filter_cons]
    by_cases hg : g.f0 > n
    · have h1 : w.filter (fun g => decide (g.f0 > n)) = w := by
        refine List.filter_eq_self.2 (fun x hx => ?_)
        have := asc_mem h.2 x hx
        simp; omega
      have h2 : pAt d (g :: w) n = d := by
        rw [pAt_cons, if_neg (by omega)]
        exact pAt_before d n h.2 (by omega)
      rw [if_pos (by simpa using hg), h1, h2]
    · rw [if_neg (by simpa using hg), pAt_cons, if_pos (by omega), pAt_cons, if_pos (by omega)]
      exact pAt_from w _ _ n t h.2 ht
theorem pAt_fromL {w : List Gu} (h : asc 0 w) (d : Int × Int) (n t : Int) (ht : n ≤ t) : pAt d (fromL w n) t = pAt (0, 0) w t := by
  rw [fromL, pAt_cons, if_pos (by simpa using ht)]
  exact pAt_from w 0 (0, 0) n t h ht
theorem asc_fromL {w : List Gu} (h : asc 0 w) (n : Int) : asc n (fromL w n) := ⟨Int.le_refl _, filter_asc w 0 n h⟩
theorem impl_from_l0 (l : List Gu) (n : Int) (hl : l.length < 1099511627776) : ∀ (suf pre out : List Gu), l = pre ++ suf → out.length ≤ pre.length + 1 →
    Ev (fun k => impl_from.l0 k n out l (l.length : Int) (pre.length : Int)) (out ++ suf.filter (fun g => decide (g.f0 > n))) := by
  intro suf
  induction suf with
  | nil =>
    intro pre out h ho
    refine ev_succ ?_
    simp only [impl_from.l0, if_neg (ixn h), List.filter_nil, List.append_nil]
    exact Ev.now _
  | cons a t ih =>
    intro pre out h ho
    obtain ⟨h1, h2, h3, h4⟩ := ix h (by omega)
    refine ev_succ ?_
    simp only [impl_from.l0, if_pos h1, if_pos (nn _), Int.toNat_natCast, rd_T69, h2, h3, if_pos (show out.length < 5864062014805 by omega)]
    rw [List.filter_cons]
    refine ev_ite (fun c => ?_) (fun c => ?_)
    · rw [if_pos (by simpa using c)]
      have := ih (pre ++ [a]) (out ++ [a]) h4 (by simp; omega)
      simpa using this
    · rw [if_neg (by simpa using c)]
      exact ih (pre ++ [a]) out h4 (by simp; omega)
theorem impl_from_ev {w : List Gu} (h : pWind w = true) (n : Int) : Ev (fun k => impl_from.f k w n) (fromL w n) := by
  unfold impl_from.f fromL
  refine Ev.bind (impl_DriftAt_ok h n) ?_
  have := impl_from_l0 w n (by have := pWind_len h; omega) w [] [⟨n, ⟨(pAt (0, 0) w n).1, (pAt (0, 0) w n).2⟩⟩] rfl (by simp)
  simpa using this
def joinF (a b : List Gu) (t : Int) (s : Int) : Int × Int := if t ≤ s then pAt (0, 0) b s else pAt (0, 0) a s
def joinL (a b : List Gu) (t : Int) : List Gu := a.filter (fun g => decide (g.f0 < t)) ++ fromL b t
/-- JoinWinds -/
def pJoin (a b : List Gu) (t : Int) : List Gu × Bool :=
  if (pWind a = true ∧ pWind b = true) ∧ (0 ≤ t ∧ t ≤ 64) then if ((chg (0, 0) (joinL a b t)).length : Int) > 8 then ([], false) else (chg (0, 0) (joinL a b t), true) else ([], false)
theorem pJoin_length (a b : List Gu) (t : Int) : (pJoin a b t).1.length ≤ a.length + b.length + 1 := by
  unfold pJoin
  repeat' split
  · simp
  · refine Nat.le_trans (chg_length _ _) ?_
    have := fromL_length b t
    have := List.length_filter_le (fun g : Gu => decide (g.f0 < t)) a
    simp [joinL]; omega
  · simp
theorem asc_app : ∀ (l m : List Gu) (s t : Int), asc s l → asc t m → s ≤ t → (∀ g ∈ l, g.f0 < t) → asc s (l ++ m)
  | [], m, s, t, _, hm, hst, _ => asc_le hst hm
  | g :: l, m, s, t, hl, hm, hst, hb => by
    have := hb g (by simp)
    exact ⟨hl.1, asc_app l m _ t hl.2 hm (by omega) (fun x hx => hb x (by simp [hx]))⟩
theorem asc_filter : ∀ (w : List Gu) (s : Int) (p : Gu → Bool), asc s w → asc s (w.filter p)
  | [], _, _, _ => trivial
  | g :: w, s, p, h => by
    have h1 := h.1
    rw [List.filter_cons]
    split
    · exact ⟨h.1, asc_filter w _ p h.2⟩
    · exact asc_le (show s ≤ g.f0 + 1 by omega) (asc_filter w _ p h.2)
theorem pAt_app (l m : List Gu) (d : Int × Int) (t : Int) : pAt d (l ++ m) t = pAt (pAt d l t) m t := by simp [pAt]
theorem pAt_filter_lt : ∀ (w : List Gu) (d : Int × Int) (t s : Int), s < t → pAt d (w.filter (fun g => decide (g.f0 < t))) s = pAt d w s
  | [], _, _, _, _ => rfl
  | g :: w, d, t, s, h => by
    rw [List.filter_cons, pAt_cons]
    split
    · rw [pAt_cons]; exact pAt_filter_lt w _ t s h
    · rename_i hg
      simp only [decide_eq_true_eq] at hg
      rw [if_neg (by omega)]; exact pAt_filter_lt w _ t s h
theorem join_asc {a b : List Gu} (ha : pWind a = true) (hb : pWind b = true) {t : Int} (h0 : 0 ≤ t) (h1 : t ≤ 64) :
    asc 0 (joinL a b t) ∧ (∀ g ∈ joinL a b t, gOk g = true) ∧ ∀ s, 0 ≤ s → pAt (0, 0) (joinL a b t) s = joinF a b t s := by
  have ka := (pWind_iff a).1 ha
  have kb := (pWind_iff b).1 hb
  have hat : ∀ w : List Gu, (asc 0 w ∧ ∀ g ∈ w, gOk g = true) → ∀ s, gDr (pAt (0, 0) w s).1 (pAt (0, 0) w s).2 = true := by
    intro w hw s
    have : ∀ (w : List Gu) (d : Int × Int), gDr d.1 d.2 = true → (∀ g ∈ w, gOk g = true) → gDr (pAt d w s).1 (pAt d w s).2 = true := by
      intro w
      induction w with
      | nil => intro d h _; exact h
      | cons g w ih =>
        intro d h hg
        rw [pAt_cons]
        refine ih _ ?_ (fun x hx => hg x (by simp [hx]))
        split
        · have := hg g (by simp)
          simp only [gOk, Bool.and_eq_true] at this
          exact this.2
        · exact h
    exact this w (0, 0) (by decide) hw.2
  refine ⟨?_, ?_, ?_⟩
  · refine asc_app _ _ 0 t (asc_filter a 0 _ ka.1.1) (asc_fromL kb.1.1 t) h0 (fun g hg => ?_)
    simpa using (List.mem_filter.1 hg).2
  · intro g hg
    rcases List.mem_append.1 hg with hg | hg
    · exact ka.1.2 g (List.mem_filter.1 hg).1
    · rcases List.mem_cons.1 hg with rfl | hg
      · have := hat b kb.1 t
        simp only [gOk, Bool.and_eq_true, decide_eq_true_eq]
        exact ⟨⟨h0, h1⟩, this⟩
      · exact kb.1.2 g (List.mem_filter.1 hg).1
  · intro s hs
    rw [joinL, pAt_app, joinF]
    by_cases hst : t ≤ s
    · rw [if_pos hst]; exact pAt_fromL kb.1.1 _ t s hst
    · rw [if_neg hst, pAt_before _ s (asc_fromL kb.1.1 t) (by omega)]
      exact pAt_filter_lt a _ t s (by omega)
theorem join_frm {a b : List Gu} (ha : pWind a = true) (hb : pWind b = true) {t : Int} (h0 : 0 ≤ t) (h1 : t ≤ 64) : chg (0, 0) (joinL a b t) = frm 0 (0, 0) (lstF (joinF a b t) 65 0) := by
  obtain ⟨k1, k2, k3⟩ := join_asc ha hb h0 h1
  rw [chg_frm 65 0 (0, 0) _ k1 (fun g hg => by have := gOk_from (k2 g hg); omega), lstF_congr 65 0 (fun s hs _ => k3 s hs)]
theorem lstF_set (f g : Int → Int × Int) : ∀ (n : Nat) (s : Int) (i : Nat), i < n → (∀ u, u ≠ s + i → g u = f u) → (lstF f n s).set i ⟨(g (s + i)).1, (g (s + i)).2⟩ = lstF g n s
  | 0, _, _, h, _ => absurd h (Nat.not_lt_zero _)
  | n + 1, s, 0, _, hg => by
    rw [lstF, lstF, List.set_cons_zero]
    congr 1
    · simp
    · exact lstF_congr n (s + 1) (fun u h1 _ => (hg u (by omega)).symm)
  | n + 1, s, i + 1, h, hg => by
    rw [lstF, lstF, List.set_cons_succ, hg s (by omega)]
    have := lstF_set f g n (s + 1) i (by omega) (fun u hu => hg u (by omega))
    rw [show s + ((i + 1 : Nat) : Int) = s + 1 + (i : Int) by omega, this]
theorem spec_JoinWinds_l0 (a b : List Gu) (t : Int) (hb : b.length < 1099511627776) (r : List Gu) (hr : r = frm 0 (0, 0) (lstF (joinF a b t) 65 0)) (h0 : 0 ≤ t) : ∀ (d : Nat) (i : Int), t ≤ i → i + d = 65 →
    Ev (fun k => spec_JoinWinds.l0 k b (lstF (fun s => if t ≤ s ∧ s < i then pAt (0, 0) b s else pAt (0, 0) a s) 65 0) i) (if (r.length : Int) > 8 then ([], false) else (r, true)) := by
  intro d
  induction d with
  | zero =>
    intro i h1 h2
    refine ev_succ ?_
    simp only [spec_JoinWinds.l0, if_neg (show ¬ (i ≤ 64) by omega)]
    have e : lstF (fun s => if t ≤ s ∧ s < i then pAt (0, 0) b s else pAt (0, 0) a s) 65 0 = lstF (joinF a b t) 65 0 := by
      refine lstF_congr 65 0 (fun s h3 h4 => ?_)
      simp only [joinF]
      by_cases h : t ≤ s
      · rw [if_pos h, if_pos ⟨h, by omega⟩]
      · rw [if_neg h, if_neg (fun hh => h hh.1)]
    rw [e]
    refine Ev.bind (spec_l4From_ev _ (by rw [lstF_length]; omega)) ?_
    rw [← hr]
    refine ev_ite (fun c => ?_) (fun c => ?_)
    · rw [if_pos c]; exact Ev.now _
    · rw [if_neg c]; exact Ev.now _
  | succ d ih =>
    intro i h1 h2
    refine ev_succ ?_
    simp only [spec_JoinWinds.l0, if_pos (show (i ≤ 64) by omega)]
    refine Ev.bind (spec_l4At_ev b i hb) ?_
    simp only [if_pos (show 0 ≤ i by omega), lstF_length, if_pos (show i < ((65 : Nat) : Int) by omega)]
    rw [show wrap64 (i + 1) = i + 1 by unfold wrap64; omega]
    have e := lstF_set (fun s => if t ≤ s ∧ s < i then pAt (0, 0) b s else pAt (0, 0) a s) (fun s => if t ≤ s ∧ s < i + 1 then pAt (0, 0) b s else pAt (0, 0) a s) 65 0 i.toNat (by omega) (fun u hu => by
      by_cases h : t ≤ u ∧ u < i
      · rw [if_pos h, if_pos ⟨h.1, by omega⟩]
      · rw [if_neg h, if_neg (by omega)])
    have e2 : (0 : Int) + (i.toNat : Int) = i := by omega
    simp only [e2, if_pos (show t ≤ i ∧ i < i + 1 by omega)] at e
    rw [e]
    exact ih (i + 1) (by omega) (by omega)
theorem spec_JoinWinds_ev (a b : List Gu) (t : Int) (ha : a.length < 1099511627776) (hb : b.length < 1099511627776) : Ev (fun k => spec_JoinWinds.f k a b t) (pJoin a b t) := by
  have j1 : Ev (fun k => spec_JoinWinds.j0 k a b t true) ([], false) := by
    refine ev_succ ?_
    simp only [spec_JoinWinds.j0, if_true]; exact Ev.now _
  unfold spec_JoinWinds.f
  refine Ev.bind (spec_IsWind_ev a ha) ?_
  refine ev_ite (fun c => ?_) (fun c => ?_)
  · refine Ev.bind (spec_IsWind_ev b hb) ?_
    refine ev_ite (fun c2 => ?_) (fun c2 => ?_)
    · refine ev_ite (fun h0 => ?_) (fun h0 => ?_)
      · rw [pJoin, if_neg (by omega)]; exact j1
      · by_cases h1 : t > 64
        · rw [pJoin, if_neg (by omega)]; simpa only [decide_eq_true h1] using j1
        · rw [pJoin, if_pos ⟨⟨c, c2⟩, by omega, by omega⟩, decide_eq_false h1]
          refine ev_succ ?_
          simp only [spec_JoinWinds.j0, Bool.false_eq_true, if_false]
          refine Ev.bind (spec_l4List_ev a ha 0 64 (by omega) (by omega) (by omega)) ?_
          have := spec_JoinWinds_l0 a b t hb _ rfl (by omega) (65 - t).toNat t (by omega) (by omega)
          rw [← join_frm c c2 (by omega) (by omega)] at this
          have e : lstF (fun s => if t ≤ s ∧ s < t then pAt (0, 0) b s else pAt (0, 0) a s) 65 0 = lstF (pAt (0, 0) a) 65 0 := lstF_congr 65 0 (fun s _ _ => if_neg (by omega))
          rw [e] at this
          exact this
    · rw [pJoin, if_neg (fun h => c2 h.1.2)]; exact j1
  · rw [pJoin, if_neg (fun h => c h.1.1)]; exact j1
theorem impl_JoinWinds_l0 (a b : List Gu) (t : Int) (ha : a.length < 1099511627) (hb : pWind b = true) : ∀ (suf pre out : List Gu), a = pre ++ suf → out.length ≤ pre.length →
    Ev (fun k => impl_JoinWinds.l0 k b t out a (a.length : Int) (pre.length : Int)) (if ((chg (0, 0) (out ++ suf.filter (fun g => decide (g.f0 < t)) ++ fromL b t)).length : Int) > 8 then ([], false) else (chg (0, 0) (out ++ suf.filter (fun g => decide (g.f0 < t)) ++ fromL b t), true)) := by
  intro suf
  induction suf with
  | nil =>
    intro pre out h ho
    have hpl : pre.length = a.length := by rw [h]; simp
    have hf := fromL_length b t
    have hbl := pWind_len hb
    refine ev_succ ?_
    simp only [impl_JoinWinds.l0, if_neg (ixn h)]
    refine Ev.bind (impl_from_ev hb t) ?_
    simp only [if_pos (show out.length + (fromL b t).length < 5864062014805 by omega)]
    refine Ev.bind (impl_changes_ev _ (by simp; omega)) ?_
    rw [List.filter_nil, List.append_nil]
    refine ev_ite (fun c => ?_) (fun c => ?_)
    · rw [if_pos c]; exact Ev.now _
    · rw [if_neg c]; exact Ev.now _
  | cons x s ih =>
    intro pre out h ho
    obtain ⟨h1, h2, h3, h4⟩ := ix h (by omega)
    refine ev_succ ?_
    simp only [impl_JoinWinds.l0, if_pos h1, if_pos (nn _), Int.toNat_natCast, rd_T69, h2, h3, if_pos (show out.length < 5864062014805 by omega)]
    refine ev_ite (fun c => ?_) (fun c => ?_)
    · have hf : (x :: s).filter (fun g => decide (g.f0 < t)) = x :: s.filter (fun g => decide (g.f0 < t)) := by
        rw [List.filter_cons, if_pos (by simpa using c)]
      rw [hf]
      have := ih (pre ++ [x]) (out ++ [x]) h4 (by simp; omega)
      rw [List.append_assoc out [x], List.singleton_append] at this
      exact this
    · have hf : (x :: s).filter (fun g => decide (g.f0 < t)) = s.filter (fun g => decide (g.f0 < t)) := by
        rw [List.filter_cons, if_neg (by simpa using c)]
      rw [hf]
      exact ih (pre ++ [x]) out h4 (by simp; omega)
theorem impl_JoinWinds_ev (a b : List Gu) (t : Int) (ha : a.length < 1099511627) (hb : b.length < 1099511627) : Ev (fun k => impl_JoinWinds.f k a b t) (pJoin a b t) := by
  have j1 : Ev (fun k => impl_JoinWinds.j0 k a b t true) ([], false) := by
    refine ev_succ ?_
    simp only [impl_JoinWinds.j0, if_true]; exact Ev.now _
  unfold impl_JoinWinds.f
  refine Ev.bind (impl_IsWind_ev a (by omega)) ?_
  refine ev_ite (fun c => ?_) (fun c => ?_)
  · refine Ev.bind (impl_IsWind_ev b (by omega)) ?_
    refine ev_ite (fun c2 => ?_) (fun c2 => ?_)
    · simp only [impl_isWithin_eq, Option.bind_some]
      by_cases h0 : 0 ≤ t ∧ t ≤ 64
      · rw [pJoin, if_pos ⟨⟨c, c2⟩, h0⟩, show (!(decide (0 ≤ t) && decide (t ≤ 64))) = false by simp [h0]]
        refine ev_succ ?_
        simp only [impl_JoinWinds.j0, Bool.false_eq_true, if_false]
        have := impl_JoinWinds_l0 a b t ha c2 a [] [] rfl (by simp)
        rw [List.nil_append] at this
        exact this
      · rw [pJoin, if_neg (fun h => h0 h.2), show (!(decide (0 ≤ t) && decide (t ≤ 64))) = true by simp; omega]
        exact j1
    · rw [pJoin, if_neg (fun h => c2 h.1.2)]; exact j1
  · rw [pJoin, if_neg (fun h => c h.1.1)]; exact j1
theorem FnExactJoinWinds : laws_FnExactJoinWinds.Pure := by
  intro l m t hml _ _ hmm _ _ _
  refine Ev.rounds ?_
  simp only [laws_FnExactJoinWinds.f, laws_szGustS_eq l 1048576 (by omega) (by omega) hml, Option.bind_some]
  refine ev_ite (fun _ => Ev.now _) (fun h => ?_)
  have hll : (l.length : Int) ≤ 1048576 := by
    refine Decidable.byContradiction fun hn => h ?_
    rw [if_pos (by omega)]; omega
  rw [if_neg (by omega)]
  simp only [laws_szGustS_eq m (1048576 - (l.length : Int)) (by omega) (by omega) hmm, Option.bind_some]
  refine ev_ite (fun _ => Ev.now _) (fun h => ?_)
  have hlm : (m.length : Int) ≤ 1048576 := by
    refine Decidable.byContradiction fun hn => h ?_
    rw [if_pos (by omega)]; omega
  clear h
  have hl : l.length < 1099511627776 := by omega
  have hm : m.length < 1099511627776 := by omega
  have hl' : (l.map cvG).length < 1099511627776 := by simp; omega
  have hm' : (m.map cvG).length < 1099511627776 := by simp; omega
  have hr : (pJoin (l.map cvG) (m.map cvG) t).1.length < 1099511627776 := Nat.lt_of_le_of_lt (pJoin_length _ _ _) (by simp; omega)
  have hi := impl_JoinWinds_ev (l.map cvG) (m.map cvG) t (by simp; omega) (by simp; omega)
  have hs := spec_JoinWinds_ev (l.map cvG) (m.map cvG) t hl' hm'
  generalize pJoin (l.map cvG) (m.map cvG) t = r at hr hi hs
  obtain ⟨r, ok⟩ := r
  refine Ev.bind (laws_toGustS_ev l hl) ?_
  refine Ev.bind (laws_toGustS_ev m hm) ?_
  refine Ev.bind hs ?_
  refine Ev.bind (laws_toGustS_ev l hl) ?_
  refine Ev.bind (laws_toGustS_ev m hm) ?_
  refine Ev.bind hi ?_
  refine Ev.bind (laws_eqGustS_rfl r hr) ?_
  simp only [if_true, bne_self_eq_false]
  refine ev_succ ?_
  simp only [laws_FnExactJoinWinds.j0, Bool.false_eq_true, if_false]
  refine Ev.bind (laws_toGustS_ev l hl) ?_
  refine Ev.bind (laws_eqGustS_rfl _ hl') ?_
  simp only [if_true]
  refine Ev.bind (laws_toGustS_ev m hm) ?_
  refine Ev.bind (laws_eqGustS_rfl _ hm') ?_
  simp only [if_true]
  refine Ev.bind (laws_markGustS_ev _ 1 hl' (by omega) (by omega)) ?_
  refine Ev.bind (laws_markGustS_ev _ _ hm' (by omega) (by simp; omega)) ?_
  simp only [if_neg (show ¬ (1 + 3 * ((l.map cvG).length : Int) + 3 * ((m.map cvG).length : Int) < 0) by omega)]
  refine Ev.bind (laws_eqGustS_rfl r hr) ?_
  simp only [if_true, bne_self_eq_false]
  refine ev_succ ?_
  simp only [laws_FnExactJoinWinds.j1, Bool.false_eq_true, if_false]
  refine Ev.bind (laws_markGustS_ev r 1 hr (by omega) (by omega)) ?_
  refine Ev.bind (laws_heldGustS_ev r.length hr) ?_
  simp only [if_neg (show ¬ (1 + 3 * (r.length : Int) < 0) by omega), if_true]
  refine Ev.bind (laws_toGustS_ev l hl) ?_
  refine Ev.bind (laws_toGustS_ev m hm) ?_
  refine Ev.bind hi ?_
  refine Ev.bind (laws_eqGustS_rfl r hr) ?_
  simp only [if_true, bne_self_eq_false]
  refine ev_succ ?_
  simp only [laws_FnExactJoinWinds.j2, Bool.false_eq_true, if_false]
  refine Ev.bind (laws_heldGustS_ev r.length hr) ?_
  simp only [if_neg (show ¬ (1 + 3 * (r.length : Int) < 0) by omega), if_true]
  exact Ev.now _

end Go.Proofs.Ytcfkaoibghhahaa.Pure
