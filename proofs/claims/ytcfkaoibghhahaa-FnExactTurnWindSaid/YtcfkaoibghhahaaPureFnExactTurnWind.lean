/- The law FnExactTurnWind comes to true for every input: The program's TurnWind returns what the reference's returns, for all arguments. No condition beside the statement's own. -/
import Derived.Test.YtcfkaoibghhahaaStFnExactTurnWind
namespace Go.Proofs.Ytcfkaoibghhahaa.Pure
open Go Go.RowKit Go.Proofs.Ytcfkaoibghhahaa.MFnExactTurnWind Go.Proofs.YtcfkaoibghhahaaW.PrintWords Go.Proofs.YtcfkaoibghhahaaW.PrintLast Go.Proofs.YtcfkaoibghhahaaW.PrintMore
set_option linter.unusedVariables false
set_option linter.unusedSimpArgs false

theorem ev_succ {α : Type} {g : Nat → Option α} {r : α} (h : Ev (fun k => g (k + 1)) r) : Ev g r := Ev.step (fun _ => rfl) h
theorem ev_ite {α : Type} {c : Prop} [Decidable c] {f g : Nat → Option α} {r : α} (h : c → Ev f r) (h' : ¬ c → Ev g r) : Ev (fun k => if c then f k else g k) r := by
  by_cases hc : c
  · simp only [if_pos hc]; exact h hc
  · simp only [if_neg hc]; exact h' hc
theorem ix {α : Type} {l pre t : List α} {a : α} (h : l = pre ++ a :: t) (hl : l.length < 4611686018427387904) :
    (pre.length : Int) < (l.length : Int) ∧ (∀ d, l.getD pre.length d = a) ∧ wrap64 ((pre.length : Int) + 1) = ((pre ++ [a]).length : Int) ∧ l = (pre ++ [a]) ++ t := by
  subst h
  simp only [List.length_append, List.length_cons, List.length_nil] at *
  refine ⟨by omega, fun d => by simp [List.getD], by unfold wrap64; omega, by simp⟩
theorem ixn {α : Type} {l pre : List α} (h : l = pre ++ []) : ¬ (pre.length : Int) < (l.length : Int) := by
  subst h; simp
theorem nn (n : Nat) : (0 : Int) ≤ (n : Int) := Int.natCast_nonneg n
theorem w64 {n : Int} (h0 : -9223372036854775808 ≤ n) (h1 : n < 9223372036854775808) : wrap64 n = n := by unfold wrap64; omega
theorem mn_min (a b : Int) : mn a b = min a b := by unfold mn; omega
theorem mx_max (a b : Int) : mx a b = max a b := by unfold mx; omega
theorem set_app {α : Type} (pre t : List α) (a b : α) : (pre ++ a :: t).set pre.length b = pre ++ b :: t := by simp
theorem app1 {α : Type} (pre : List α) (a : α) (t : List α) : pre ++ a :: t = (pre ++ [a]) ++ t := by simp

/-- The numbers from c on, n of them. -/
def upto : Nat → Int → List Int
  | 0, _ => []
  | n + 1, c => c :: upto n (c + 1)
theorem upto_length : ∀ n c, (upto n c).length = n
  | 0, _ => rfl
  | n + 1, c => by simp [upto, upto_length n]

theorem spec_l1In_eq (a b c : Int) : spec_l1In.f a b c = some (decide (b ≤ a) && decide (a ≤ c)) := by
  unfold spec_l1In.f; split <;> simp <;> omega
theorem impl_isWithin_eq (a b c : Int) : impl_isWithin.f a b c = some (decide (b ≤ a) && decide (a ≤ c)) := by
  unfold impl_isWithin.f; split <;> simp <;> omega
abbrev Gu := S69
abbrev Pl := S25
abbrev LGu := S73
theorem ix2 {α : Type} {l pre t : List α} {p a : α} (h : l = (pre ++ [p]) ++ a :: t) (hl : l.length < 4611686018427387904) :
    (((pre ++ [p]).length : Int)) > 0 ∧ wrap64 (((pre ++ [p]).length : Int) - 1) = (pre.length : Int) ∧ (∀ d, l.getD pre.length d = p) ∧ (pre.length : Int) < (l.length : Int) := by
  subst h
  simp only [List.length_append, List.length_cons, List.length_nil] at *
  refine ⟨by omega, by unfold wrap64; omega, fun d => by simp [List.getD], by omega⟩
theorem ev_eq {α : Type} {f g : Nat → Option α} {r : α} (h : f = g) (k : Ev g r) : Ev f r := h ▸ k
def drB (a b : Int) : Bool := (decide (-8 ≤ a) && decide (a ≤ 8)) && (decide (-8 ≤ b) && decide (b ≤ 8))
theorem spec_l4Drift_eq (a b : Int) : spec_l4Drift.f a b = some (drB a b) := by
  simp only [spec_l4Drift.f, spec_l1In_eq, Option.bind_some, drB]
  cases (decide (-8 ≤ a) && decide (a ≤ 8)) <;> simp
def drB' (a b : Int) : Bool := (decide (-8 ≤ a) && decide (a ≤ 8)) && (decide (-8 ≤ b) && decide (b ≤ 8))
theorem impl_isDrift_eq (a b : Int) : impl_isDrift.f a b = some (drB' a b) := by
  simp only [impl_isDrift.f, impl_isWithin_eq, Option.bind_some, drB']
  cases (decide (-8 ≤ a) && decide (a ≤ 8)) <;> simp
def gDr (a b : Int) : Bool := (decide (-8 ≤ a) && decide (a ≤ 8)) && (decide (-8 ≤ b) && decide (b ≤ 8))
def gOk (g : Gu) : Bool := (decide (0 ≤ g.f0) && decide (g.f0 ≤ 64)) && gDr g.f1.f0 g.f1.f1
/-- The gusts behind one. -/
def wRest : Gu → List Gu → Bool
  | _, [] => true
  | p, g :: t => gOk g && (decide (p.f0 < g.f0) && wRest g t)
def wAll : List Gu → Bool
  | [] => true
  | g :: t => gOk g && wRest g t
/-- IsWind -/
def pWind (l : List Gu) : Bool := wAll l && decide ((l.length : Int) ≤ 8)
theorem pWind_len {l : List Gu} (h : pWind l = true) : l.length ≤ 8 := by
  simp only [pWind, Bool.and_eq_true, decide_eq_true_eq] at h; omega
/-- The drift at a tick. -/
def pAt (d : Int × Int) (w : List Gu) (t : Int) : Int × Int := w.foldl (fun d g => if g.f0 ≤ t then (g.f1.f0, g.f1.f1) else d) d
theorem spec_IsWind_l0 (l : List Gu) (hl : l.length < 1099511627776) : ∀ (suf pre : List Gu) (p : Gu), l = (pre ++ [p]) ++ suf →
    Ev (fun k => spec_IsWind.l0 k l l (l.length : Int) ((pre ++ [p]).length : Int)) (wRest p suf && decide ((l.length : Int) ≤ 8)) := by
  intro suf
  induction suf with
  | nil =>
    intro pre p h
    refine ev_succ ?_
    simp only [spec_IsWind.l0, if_neg (ixn h), wRest, Bool.true_and]
    exact Ev.now _
  | cons a t ih =>
    intro pre p h
    obtain ⟨h1, h2, h3, h4⟩ := ix h (by omega)
    obtain ⟨h5, h6, h7, h8⟩ := ix2 h (by omega)
    refine ev_succ ?_
    simp only [spec_IsWind.l0, if_pos h1, if_pos (nn _), Int.toNat_natCast, rd_T69, h2, h3, h6, h7, spec_l1In_eq, spec_l4Drift_eq, Option.bind_some, if_pos h5, if_pos h8]
    rw [wRest, gOk]
    change Ev (fun k => if (decide (0 ≤ a.f0) && decide (a.f0 ≤ 64)) = true then if gDr a.f1.f0 a.f1.f1 = true then _ else _ else _) _
    refine ev_ite (fun c1 => ?_) (fun c1 => ?_)
    · rw [c1, Bool.true_and]
      refine ev_ite (fun c2 => ?_) (fun c2 => ?_)
      · rw [c2, Bool.true_and]
        refine ev_ite (fun c3 => ?_) (fun c3 => ?_)
        · rw [decide_eq_false (by omega), Bool.false_and, Bool.false_and]; exact Ev.now _
        · rw [decide_eq_true (by omega), Bool.true_and]; exact ih (pre ++ [p]) a h4
      · rw [Bool.eq_false_iff.2 c2, Bool.false_and, Bool.false_and]; exact Ev.now _
    · rw [Bool.eq_false_iff.2 c1, Bool.false_and, Bool.false_and, Bool.false_and]; exact Ev.now _
theorem spec_IsWind_ev (l : List Gu) (hl : l.length < 1099511627776) : Ev (fun k => spec_IsWind.f k l) (pWind l) := by
  unfold spec_IsWind.f pWind
  refine ev_succ ?_
  cases l with
  | nil =>
    simp only [spec_IsWind.l0]
    exact Ev.now _
  | cons a t =>
    obtain ⟨h1, h2, h3, h4⟩ := ix (l := a :: t) (pre := []) rfl (by omega)
    simp only [List.length_nil, Int.natCast_zero] at h1 h2 h3
    simp only [spec_IsWind.l0, if_pos h1, if_pos (show (0 : Int) ≤ 0 by omega), Int.toNat_zero, rd_T69, h2, h3, spec_l1In_eq, spec_l4Drift_eq, Option.bind_some, if_neg (show ¬ ((0 : Int) > 0) by omega)]
    rw [wAll, gOk]
    change Ev (fun k => if (decide (0 ≤ a.f0) && decide (a.f0 ≤ 64)) = true then if gDr a.f1.f0 a.f1.f1 = true then _ else _ else _) _
    refine ev_ite (fun c1 => ?_) (fun c1 => ?_)
    · rw [c1, Bool.true_and]
      refine ev_ite (fun c2 => ?_) (fun c2 => ?_)
      · rw [c2, Bool.true_and]
        exact spec_IsWind_l0 (a :: t) hl t [] a rfl
      · rw [Bool.eq_false_iff.2 c2, Bool.false_and, Bool.false_and]; exact Ev.now _
    · rw [Bool.eq_false_iff.2 c1, Bool.false_and, Bool.false_and, Bool.false_and]; exact Ev.now _
theorem impl_IsWind_l0 (l : List Gu) (hl : l.length < 1099511627776) : ∀ (suf pre : List Gu) (p : Gu), l = (pre ++ [p]) ++ suf →
    Ev (fun k => impl_IsWind.l0 k l l (l.length : Int) ((pre ++ [p]).length : Int)) (wRest p suf && decide ((l.length : Int) ≤ 8)) := by
  intro suf
  induction suf with
  | nil =>
    intro pre p h
    refine ev_succ ?_
    simp only [impl_IsWind.l0, if_neg (ixn h), wRest, Bool.true_and]
    exact Ev.now _
  | cons a t ih =>
    intro pre p h
    obtain ⟨h1, h2, h3, h4⟩ := ix h (by omega)
    obtain ⟨h5, h6, h7, h8⟩ := ix2 h (by omega)
    refine ev_succ ?_
    simp only [impl_IsWind.l0, if_pos h1, if_pos (nn _), Int.toNat_natCast, rd_T69, h2, h3, h6, h7, impl_isWithin_eq, impl_isDrift_eq, Option.bind_some, if_pos h5, if_pos h8]
    rw [wRest, gOk]
    change Ev (fun k => if (decide (0 ≤ a.f0) && decide (a.f0 ≤ 64)) = true then if gDr a.f1.f0 a.f1.f1 = true then _ else _ else _) _
    refine ev_ite (fun c1 => ?_) (fun c1 => ?_)
    · rw [c1, Bool.true_and]
      refine ev_ite (fun c2 => ?_) (fun c2 => ?_)
      · rw [c2, Bool.true_and]
        refine ev_ite (fun c3 => ?_) (fun c3 => ?_)
        · rw [decide_eq_false (by omega), Bool.false_and, Bool.false_and]; exact Ev.now _
        · rw [decide_eq_true (by omega), Bool.true_and]; exact ih (pre ++ [p]) a h4
      · rw [Bool.eq_false_iff.2 c2, Bool.false_and, Bool.false_and]; exact Ev.now _
    · rw [Bool.eq_false_iff.2 c1, Bool.false_and, Bool.false_and, Bool.false_and]; exact Ev.now _
theorem impl_IsWind_ev (l : List Gu) (hl : l.length < 1099511627776) : Ev (fun k => impl_IsWind.f k l) (pWind l) := by
  unfold impl_IsWind.f pWind
  refine ev_succ ?_
  cases l with
  | nil =>
    simp only [impl_IsWind.l0]
    exact Ev.now _
  | cons a t =>
    obtain ⟨h1, h2, h3, h4⟩ := ix (l := a :: t) (pre := []) rfl (by omega)
    simp only [List.length_nil, Int.natCast_zero] at h1 h2 h3
    simp only [impl_IsWind.l0, if_pos h1, if_pos (show (0 : Int) ≤ 0 by omega), Int.toNat_zero, rd_T69, h2, h3, impl_isWithin_eq, impl_isDrift_eq, Option.bind_some, if_neg (show ¬ ((0 : Int) > 0) by omega)]
    rw [wAll, gOk]
    change Ev (fun k => if (decide (0 ≤ a.f0) && decide (a.f0 ≤ 64)) = true then if gDr a.f1.f0 a.f1.f1 = true then _ else _ else _) _
    refine ev_ite (fun c1 => ?_) (fun c1 => ?_)
    · rw [c1, Bool.true_and]
      refine ev_ite (fun c2 => ?_) (fun c2 => ?_)
      · rw [c2, Bool.true_and]
        exact impl_IsWind_l0 (a :: t) hl t [] a rfl
      · rw [Bool.eq_false_iff.2 c2, Bool.false_and, Bool.false_and]; exact Ev.now _
    · rw [Bool.eq_false_iff.2 c1, Bool.false_and, Bool.false_and, Bool.false_and]; exact Ev.now _
theorem laws_toPlace_eq (a b : Int) : laws_toPlace.f a b = some (a, b) := rfl
theorem laws_toGust_eq (a b c : Int) : laws_toGust.f a b c = some (a, b, c) := rfl
def cvG (g : LGu) : Gu := ⟨g.f0, ⟨g.f1.f0, g.f1.f1⟩⟩
theorem laws_toGustS_l0 (l : List LGu) (hl : l.length < 1099511627776) : ∀ (suf pre : List LGu), l = pre ++ suf →
    Ev (fun k => laws_toGustS.l0 k l (pre.map cvG ++ List.replicate suf.length z69) (pre.length : Int)) (l.map cvG) := by
  intro suf
  induction suf with
  | nil =>
    intro pre h
    refine ev_succ ?_
    simp only [laws_toGustS.l0, if_neg (ixn h)]
    simpa [h] using Ev.now (l.map cvG)
  | cons a t ih =>
    intro pre h
    obtain ⟨h1, h2, h3, h4⟩ := ix h (by omega)
    refine ev_succ ?_
    have h5 : (pre.length : Int) < ((pre.map cvG ++ List.replicate (a :: t).length z69).length : Int) := by simp; omega
    simp only [laws_toGustS.l0, if_pos h1, if_pos (nn _), laws_toGust_eq, Option.bind_some, if_pos h5, Int.toNat_natCast, rd_T73, h2, h3]
    have := ih (pre ++ [a]) h4
    have hp : pre.length = (pre.map cvG).length := by simp
    rw [List.length_cons, List.replicate_succ, hp, set_app]
    simpa [cvG] using this
theorem laws_toGustS_ev (l : List LGu) (hl : l.length < 1099511627776) : Ev (fun k => laws_toGustS.f k l) (l.map cvG) := by
  have := laws_toGustS_l0 l hl l [] rfl
  simp only [laws_toGustS.f, if_pos (nn _), Int.toNat_natCast, if_pos (show l.length ≤ 11728124029610 by omega)]
  simpa using this
theorem laws_eqPlace_rfl (a b : Int) : laws_eqPlace.f a b a b = some true := by simp [laws_eqPlace.f]
theorem laws_eqGust_rfl (a b c : Int) : laws_eqGust.f a b c a b c = some true := by simp [laws_eqGust.f, laws_eqPlace_rfl]
theorem laws_eqGustS_l0 (x : List Gu) (hl : x.length < 1099511627776) : ∀ (d i : Nat), i + d = x.length → Ev (fun k => laws_eqGustS.l0 k x x (i : Int)) true := by
  intro d
  induction d with
  | zero =>
    intro i h
    refine ev_succ ?_
    simp only [laws_eqGustS.l0, if_neg (show ¬ ((i : Int) < (x.length : Int)) by omega)]
    exact Ev.now _
  | succ d ih =>
    intro i h
    refine ev_succ ?_
    simp only [laws_eqGustS.l0, if_pos (show ((i : Int) < (x.length : Int)) by omega), if_pos (nn _), laws_eqGust_rfl, Option.bind_some, if_true]
    rw [show wrap64 ((i : Int) + 1) = ((i + 1 : Nat) : Int) by unfold wrap64; omega]
    exact ih (i + 1) (by omega)
theorem laws_eqGustS_rfl (x : List Gu) (hl : x.length < 1099511627776) : Ev (fun k => laws_eqGustS.f k x x) true := by
  simp only [laws_eqGustS.f, if_true]
  exact laws_eqGustS_l0 x hl x.length 0 (by omega)
theorem laws_szGustS_eq (l : List LGu) (n : Int) (hn : 0 ≤ n) (hn2 : n ≤ 1048576) (hl : l.length ≤ maxLen) : laws_szGustS.f l n = some (if n - (l.length : Int) < 0 then -1 else n - (l.length : Int)) := by
  have : (l.length : Int) ≤ 9223372036854775807 := by have : maxLen = 9223372036854775807 := rfl; omega
  unfold laws_szGustS.f
  rw [show wrap64 (n - (l.length : Int)) = n - (l.length : Int) by unfold wrap64; omega]
  split <;> rfl
def rotN : Nat → Int × Int → Int × Int
  | 0, p => p
  | k + 1, p => rotN k (wrap64 (-p.2), p.1)
/-- A place turned by n quarters. -/
def pTurn4 (n : Int) (p : Int × Int) : Int × Int := rotN (n % 4).toNat p
theorem spec_l2Mod_eq (n : Int) : spec_l2Mod.f n = some (n % 4) := by
  unfold spec_l2Mod.f
  have h1 := Int.emod_nonneg n (show (4 : Int) ≠ 0 by omega)
  have h2 := Int.emod_lt_of_pos n (show (0 : Int) < 4 by omega)
  have h3 := Int.tmod_eq_emod_of_nonneg (a := n) (b := 4)
  by_cases h : 0 ≤ n
  · rw [h3 h, if_neg (by omega)]
  · have h4 : Int.tmod n 4 = -(Int.tmod (-n) 4) := by rw [Int.neg_tmod, Int.neg_neg]
    have h5 := Int.tmod_eq_emod_of_nonneg (a := -n) (b := 4) (by omega)
    rw [h4, h5]
    split
    · rw [show wrap64 (-(-n % 4) + 4) = -(-n % 4) + 4 by unfold wrap64; omega]
      congr 1; omega
    · congr 1; omega
theorem impl_turns_eq (n : Int) : impl_turns.f n = some (n % 4) := by
  unfold impl_turns.f
  by_cases h : 0 ≤ n
  · rw [Int.tmod_eq_emod_of_nonneg h, show wrap64 (n % 4 + 4) = n % 4 + 4 by unfold wrap64; omega, Int.tmod_eq_emod_of_nonneg (by omega)]
    congr 1; omega
  · have h4 : Int.tmod n 4 = -(-n % 4) := by
      rw [← Int.tmod_eq_emod_of_nonneg (a := -n) (b := 4) (by omega), Int.neg_tmod, Int.neg_neg]
    rw [h4, show wrap64 (-(-n % 4) + 4) = -(-n % 4) + 4 by unfold wrap64; omega, Int.tmod_eq_emod_of_nonneg (by omega)]
    congr 1; omega
theorem spec_l2Turn_l0 : ∀ (m : Nat) (x y : Int), m < 10 → Ev (fun k => spec_l2Turn.l0 k (m : Int) x y) (rotN m (x, y)) := by
  intro m
  induction m with
  | zero =>
    intro x y _
    refine ev_succ ?_
    simp only [spec_l2Turn.l0, if_neg (show ¬ (((0 : Nat) : Int) > 0) by omega)]
    exact Ev.now _
  | succ m ih =>
    intro x y hm
    refine ev_succ ?_
    simp only [spec_l2Turn.l0, if_pos (show (((m + 1 : Nat) : Int) > 0) by omega)]
    rw [show wrap64 (((m + 1 : Nat) : Int) - 1) = (m : Int) by unfold wrap64; omega]
    exact ih _ _ (by omega)
theorem spec_l2Turn_ev (x y n : Int) : Ev (fun k => spec_l2Turn.f k x y n) (pTurn4 n (x, y)) := by
  unfold spec_l2Turn.f pTurn4
  simp only [spec_l2Mod_eq, Option.bind_some]
  have := spec_l2Turn_l0 (n % 4).toNat x y (by omega)
  rwa [show (((n % 4).toNat : Nat) : Int) = n % 4 by omega] at this
theorem impl_turned_l0 : ∀ (m : Nat) (i e x y : Int), 0 ≤ i → i + m = e → e < 10 → Ev (fun k => impl_turned.l0 k e i x y) (rotN m (x, y)) := by
  intro m
  induction m with
  | zero =>
    intro i e x y h0 h _
    refine ev_succ ?_
    simp only [impl_turned.l0, if_neg (show ¬ (i < e) by omega)]
    exact Ev.now _
  | succ m ih =>
    intro i e x y h0 h he
    refine ev_succ ?_
    simp only [impl_turned.l0, if_pos (show (i < e) by omega)]
    rw [show wrap64 (i + 1) = i + 1 by unfold wrap64; omega]
    exact ih (i + 1) e _ _ (by omega) (by omega) he
theorem impl_turned_ev (x y n : Int) : Ev (fun k => impl_turned.f k x y n) (pTurn4 n (x, y)) := by
  unfold impl_turned.f pTurn4
  simp only [impl_turns_eq, Option.bind_some]
  exact impl_turned_l0 (n % 4).toNat 0 (n % 4) x y (by omega) (by omega) (by omega)
def gTurn (n : Int) (g : Gu) : Gu := ⟨g.f0, ⟨(pTurn4 n (g.f1.f0, g.f1.f1)).1, (pTurn4 n (g.f1.f0, g.f1.f1)).2⟩⟩
/-- TurnWind -/
def pTurnWind (w : List Gu) (n : Int) : List Gu := if pWind w = true then w.map (gTurn n) else []
theorem pTurnWind_length (w : List Gu) (n : Int) : (pTurnWind w n).length ≤ w.length := by
  unfold pTurnWind; split <;> simp
theorem spec_TurnWind_l0 (l : List Gu) (n : Int) (hl : l.length < 1099511627776) : ∀ (suf pre out : List Gu), l = pre ++ suf → out.length ≤ pre.length →
    Ev (fun k => spec_TurnWind.l0 k l n out l (l.length : Int) (pre.length : Int)) (if pWind l = true then out ++ suf.map (gTurn n) else out) := by
  intro suf
  induction suf with
  | nil =>
    intro pre out h ho
    refine ev_succ ?_
    simp only [spec_TurnWind.l0, if_neg (ixn h), List.map_nil, List.append_nil, ite_self]
    exact Ev.now _
  | cons a t ih =>
    intro pre out h ho
    obtain ⟨h1, h2, h3, h4⟩ := ix h (by omega)
    refine ev_succ ?_
    simp only [spec_TurnWind.l0, if_pos h1, if_pos (nn _), Int.toNat_natCast, rd_T69, h2, h3]
    refine Ev.bind (spec_IsWind_ev l hl) ?_
    refine ev_ite (fun c => ?_) (fun c => ?_)
    · refine Ev.bind (spec_l2Turn_ev _ _ _) ?_
      simp only [if_pos (show out.length < 5864062014805 by omega)]
      have := ih (pre ++ [a]) (out ++ [gTurn n a]) h4 (by simp; omega)
      rw [if_pos c] at this ⊢
      simpa [gTurn] using this
    · have := ih (pre ++ [a]) out h4 (by simp; omega)
      rw [if_neg c] at this ⊢
      exact this
theorem spec_TurnWind_ev (l : List Gu) (n : Int) (hl : l.length < 1099511627776) : Ev (fun k => spec_TurnWind.f k l n) (pTurnWind l n) := spec_TurnWind_l0 l n hl l [] [] rfl (by simp)
theorem impl_TurnWind_l0 (l : List Gu) (n : Int) (hl : l.length < 1099511627776) : ∀ (suf pre out : List Gu), l = pre ++ suf → out.length ≤ pre.length →
    Ev (fun k => impl_TurnWind.l0 k n out l (l.length : Int) (pre.length : Int)) (out ++ suf.map (gTurn n)) := by
  intro suf
  induction suf with
  | nil =>
    intro pre out h ho
    refine ev_succ ?_
    simp only [impl_TurnWind.l0, if_neg (ixn h), List.map_nil, List.append_nil]
    exact Ev.now _
  | cons a t ih =>
    intro pre out h ho
    obtain ⟨h1, h2, h3, h4⟩ := ix h (by omega)
    refine ev_succ ?_
    simp only [impl_TurnWind.l0, if_pos h1, if_pos (nn _), Int.toNat_natCast, rd_T69, h2, h3]
    refine Ev.bind (impl_turned_ev _ _ _) ?_
    simp only [if_pos (show out.length < 5864062014805 by omega)]
    have := ih (pre ++ [a]) (out ++ [gTurn n a]) h4 (by simp; omega)
    simpa [gTurn] using this
theorem impl_TurnWind_ev (l : List Gu) (n : Int) (hl : l.length < 1099511627776) : Ev (fun k => impl_TurnWind.f k l n) (pTurnWind l n) := by
  simp only [impl_TurnWind.f, Option.bind_some]
  refine Ev.bind (impl_IsWind_ev l hl) ?_
  unfold pTurnWind
  refine ev_ite (fun c => ?_) (fun c => ?_)
  · rw [if_pos c]; exact impl_TurnWind_l0 l n hl l [] [] rfl (by simp)
  · rw [if_neg c]; exact Ev.now _
def gUpto : Nat → Int → List Gu
  | 0, _ => []
  | n + 1, c => ⟨c, ⟨c + 1, c + 2⟩⟩ :: gUpto n (c + 3)
theorem gUpto_length : ∀ n c, (gUpto n c).length = n
  | 0, _ => rfl
  | n + 1, c => by simp [gUpto, gUpto_length n]
theorem laws_markGustS_l0 : ∀ (suf pre : List Gu) (c : Int), 0 ≤ c → pre.length + suf.length < 1099511627776 → c + 3 * suf.length < 4611686018427387904 →
    Ev (fun k => laws_markGustS.l0 k (pre ++ suf) c (pre.length : Int)) (c + 3 * suf.length, pre ++ gUpto suf.length c) := by
  intro suf
  induction suf with
  | nil =>
    intro pre c _ _ _
    refine ev_succ ?_
    simp only [laws_markGustS.l0, if_neg (ixn (pre := pre) rfl)]
    simpa [gUpto] using Ev.now (c, pre)
  | cons a t ih =>
    intro pre c h0 hl hm
    simp only [List.length_cons] at hl hm
    obtain ⟨h1, h2, h3, h4⟩ := ix (l := pre ++ a :: t) rfl (by simp; omega)
    refine ev_succ ?_
    have hg : ∀ (b d : Gu), (pre ++ b :: t).getD pre.length d = b := fun b d => by simp [List.getD]
    simp only [laws_markGustS.l0, if_pos h1, if_pos (nn _), Int.toNat_natCast, set_app, Option.bind_some, rd_T69, hg]
    rw [show wrap64 (c + 1) = c + 1 by unfold wrap64; omega, show wrap64 (c + 1 + 1) = c + 2 by unfold wrap64; omega, show wrap64 (c + 2 + 1) = c + 3 by unfold wrap64; omega, show wrap64 ((pre.length : Int) + 1) = ((pre ++ [(⟨c, ⟨c + 1, c + 2⟩⟩ : Gu)]).length : Int) by simp; unfold wrap64; omega, app1]
    have := ih (pre ++ [⟨c, ⟨c + 1, c + 2⟩⟩]) (c + 3) (by omega) (by simp; omega) (by omega)
    simp only [List.length_cons, gUpto, List.append_assoc, List.singleton_append] at this ⊢
    rwa [show c + 3 * ((t.length + 1 : Nat) : Int) = c + 3 + 3 * t.length by omega]
theorem laws_markGustS_ev (l : List Gu) (c : Int) (hl : l.length < 1099511627776) (h0 : 0 ≤ c) (h1 : c < 4611686018427) : Ev (fun k => laws_markGustS.f k l c) (c + 3 * l.length, gUpto l.length c) := by
  have := laws_markGustS_l0 l [] c h0 (by simp; omega) (by omega)
  simpa [laws_markGustS.f] using this
theorem laws_heldGustS_l0 : ∀ (n : Nat) (pre : List Gu) (c : Int), 0 ≤ c → pre.length + n < 1099511627776 → c + 3 * n < 4611686018427387904 →
    Ev (fun k => laws_heldGustS.l0 k (pre ++ gUpto n c) c (pre.length : Int)) (c + 3 * n) := by
  intro n
  induction n with
  | zero =>
    intro pre c _ _ _
    refine ev_succ ?_
    simp only [laws_heldGustS.l0, gUpto, List.append_nil, if_neg (show ¬ ((pre.length : Int) < (pre.length : Int)) by omega)]
    simpa using Ev.now c
  | succ n ih =>
    intro pre c h0 hl hm
    obtain ⟨h1, h2, h3, h4⟩ := ix (l := pre ++ ⟨c, ⟨c + 1, c + 2⟩⟩ :: gUpto n (c + 3)) rfl (by simp [gUpto_length]; omega)
    refine ev_succ ?_
    simp only [laws_heldGustS.l0, gUpto, if_pos h1, if_pos (nn _), Int.toNat_natCast, rd_T69, h2, h3, if_true]
    rw [show wrap64 (c + 1) = c + 1 by unfold wrap64; omega, show wrap64 (c + 1 + 1) = c + 2 by unfold wrap64; omega, show wrap64 (c + 2 + 1) = c + 3 by unfold wrap64; omega, app1]
    simp only [if_true]
    have := ih (pre ++ [⟨c, ⟨c + 1, c + 2⟩⟩]) (c + 3) (by omega) (by simp; omega) (by omega)
    rwa [show c + 3 * ((n + 1 : Nat) : Int) = c + 3 + 3 * n by omega]
theorem laws_heldGustS_ev (n : Nat) (hl : n < 1099511627776) : Ev (fun k => laws_heldGustS.f k (gUpto n 1) 1) (1 + 3 * n) := by
  have := laws_heldGustS_l0 n [] 1 (by omega) (by simp; omega) (by omega)
  simpa [laws_heldGustS.f] using this
theorem FnExactTurnWind : laws_FnExactTurnWind.Pure := by
  intro l n hm _ _ _
  refine Ev.rounds ?_
  simp only [laws_FnExactTurnWind.f, laws_szGustS_eq l 1048576 (by omega) (by omega) hm, Option.bind_some]
  refine ev_ite (fun _ => Ev.now _) (fun h => ?_)
  have hl : l.length < 1099511627776 := by
    refine Decidable.byContradiction fun hn => h ?_
    rw [if_pos (by omega)]; omega
  have hl' : (l.map cvG).length < 1099511627776 := by simpa using hl
  have hr : (pTurnWind (l.map cvG) n).length < 1099511627776 := Nat.lt_of_le_of_lt (pTurnWind_length _ n) hl'
  have hi := impl_TurnWind_ev (l.map cvG) n hl'
  have hs := spec_TurnWind_ev (l.map cvG) n hl'
  generalize pTurnWind (l.map cvG) n = r at hr hi hs
  refine Ev.bind (laws_toGustS_ev l hl) ?_
  refine Ev.bind hs ?_
  refine Ev.bind (laws_toGustS_ev l hl) ?_
  refine Ev.bind hi ?_
  refine Ev.bind (laws_eqGustS_rfl r hr) ?_
  simp only [if_true]
  refine Ev.bind (laws_toGustS_ev l hl) ?_
  refine Ev.bind (laws_eqGustS_rfl _ hl') ?_
  simp only [if_true]
  refine Ev.bind (laws_markGustS_ev _ 1 hl' (by omega) (by omega)) ?_
  simp only [if_neg (show ¬ (1 + 3 * ((l.map cvG).length : Int) < 0) by omega)]
  refine Ev.bind (laws_eqGustS_rfl r hr) ?_
  refine ev_succ ?_
  simp only [laws_FnExactTurnWind.j0, Bool.not_true, Bool.false_eq_true, if_false]
  refine Ev.bind (laws_markGustS_ev r 1 hr (by omega) (by omega)) ?_
  refine Ev.bind (laws_heldGustS_ev r.length hr) ?_
  simp only [if_neg (show ¬ (1 + 3 * (r.length : Int) < 0) by omega), if_true]
  refine Ev.bind (laws_toGustS_ev l hl) ?_
  refine Ev.bind hi ?_
  refine Ev.bind (laws_eqGustS_rfl r hr) ?_
  simp only [if_true]
  refine Ev.bind (laws_heldGustS_ev r.length hr) ?_
  simp only [if_neg (show ¬ (1 + 3 * (r.length : Int) < 0) by omega), if_true]
  exact Ev.now _
theorem pTurn4_cases (n : Int) : (n % 4 = 0 ∧ ∀ x y : Int, (-1000000 ≤ x ∧ x ≤ 1000000) ∧ (-1000000 ≤ y ∧ y ≤ 1000000) → pTurn4 n (x, y) = (x, y)) ∨ (n % 4 = 1 ∧ ∀ x y : Int, (-1000000 ≤ x ∧ x ≤ 1000000) ∧ (-1000000 ≤ y ∧ y ≤ 1000000) → pTurn4 n (x, y) = (-y, x)) ∨
    (n % 4 = 2 ∧ ∀ x y : Int, (-1000000 ≤ x ∧ x ≤ 1000000) ∧ (-1000000 ≤ y ∧ y ≤ 1000000) → pTurn4 n (x, y) = (-x, -y)) ∨ (n % 4 = 3 ∧ ∀ x y : Int, (-1000000 ≤ x ∧ x ≤ 1000000) ∧ (-1000000 ≤ y ∧ y ≤ 1000000) → pTurn4 n (x, y) = (y, -x)) := by
  have h : n % 4 = 0 ∨ n % 4 = 1 ∨ n % 4 = 2 ∨ n % 4 = 3 := by omega
  rcases h with h | h | h | h
  · exact .inl ⟨h, fun x y _ => by rw [pTurn4, h]; rfl⟩
  · refine .inr (.inl ⟨h, fun x y hb => ?_⟩)
    rw [pTurn4, h, show ((1 : Int)).toNat = 1 from rfl]
    simp only [rotN, Prod.mk.injEq]
    exact ⟨by unfold wrap64; omega, trivial⟩
  · refine .inr (.inr (.inl ⟨h, fun x y hb => ?_⟩))
    rw [pTurn4, h, show ((2 : Int)).toNat = 2 from rfl]
    simp only [rotN, Prod.mk.injEq]
    exact ⟨by unfold wrap64; omega, by unfold wrap64; omega⟩
  · refine .inr (.inr (.inr ⟨h, fun x y hb => ?_⟩))
    rw [pTurn4, h, show ((3 : Int)).toNat = 3 from rfl]
    simp only [rotN, Prod.mk.injEq]
    exact ⟨by unfold wrap64; omega, by unfold wrap64; omega⟩
theorem pTurn4_bound (n : Int) {x y B : Int} (hB : B ≤ 1000000) (h : (-B ≤ x ∧ x ≤ B) ∧ (-B ≤ y ∧ y ≤ B)) : (-B ≤ (pTurn4 n (x, y)).1 ∧ (pTurn4 n (x, y)).1 ≤ B) ∧ (-B ≤ (pTurn4 n (x, y)).2 ∧ (pTurn4 n (x, y)).2 ≤ B) := by
  rcases pTurn4_cases n with ⟨_, e⟩ | ⟨_, e⟩ | ⟨_, e⟩ | ⟨_, e⟩
  all_goals
    rw [e x y (by omega)]
    omega
theorem pTurn4_add (n : Int) {x y u v : Int} (h : (-100000 ≤ x ∧ x ≤ 100000) ∧ (-100000 ≤ y ∧ y ≤ 100000)) (k : (-100000 ≤ u ∧ u ≤ 100000) ∧ (-100000 ≤ v ∧ v ≤ 100000)) :
    pTurn4 n (x + u, y + v) = ((pTurn4 n (x, y)).1 + (pTurn4 n (u, v)).1, (pTurn4 n (x, y)).2 + (pTurn4 n (u, v)).2) := by
  rcases pTurn4_cases n with ⟨_, e⟩ | ⟨_, e⟩ | ⟨_, e⟩ | ⟨_, e⟩
  all_goals
    rw [e x y (by omega), e u v (by omega), e (x + u) (y + v) (by omega)]
    (try (apply Prod.ext <;> (try dsimp only) <;> omega))
theorem pTurn4_back (n m : Int) (hm : (n + m) % 4 = 0) {x y : Int} (h : (-100000 ≤ x ∧ x ≤ 100000) ∧ (-100000 ≤ y ∧ y ≤ 100000)) : pTurn4 m (pTurn4 n (x, y)) = (x, y) := by
  rcases pTurn4_cases n with ⟨hn, e⟩ | ⟨hn, e⟩ | ⟨hn, e⟩ | ⟨hn, e⟩ <;> rcases pTurn4_cases m with ⟨hk, e'⟩ | ⟨hk, e'⟩ | ⟨hk, e'⟩ | ⟨hk, e'⟩
  all_goals first
    | (exfalso; omega)
    | (rw [e x y (by omega), e' _ _ (by omega)]; try (apply Prod.ext <;> (try dsimp only) <;> omega))
theorem back_turns (n : Int) : (n + wrap64 (4 - Int.tmod n 4)) % 4 = 0 := by
  have : -3 ≤ Int.tmod n 4 ∧ Int.tmod n 4 ≤ 3 ∧ (n - Int.tmod n 4) % 4 = 0 := by
    by_cases h : 0 ≤ n
    · rw [Int.tmod_eq_emod_of_nonneg h]; omega
    · have h4 : Int.tmod n 4 = -(-n % 4) := by
        rw [← Int.tmod_eq_emod_of_nonneg (a := -n) (b := 4) (by omega), Int.neg_tmod, Int.neg_neg]
      rw [h4]; omega
  rw [show wrap64 (4 - Int.tmod n 4) = 4 - Int.tmod n 4 by unfold wrap64; omega]
  omega

end Go.Proofs.Ytcfkaoibghhahaa.Pure
