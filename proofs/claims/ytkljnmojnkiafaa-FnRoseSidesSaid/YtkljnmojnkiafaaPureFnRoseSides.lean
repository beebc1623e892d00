/- The law FnRoseSides comes to true for every input: steady in its worst drift, a wind reaches the side of the box of the rose. (P2, P4) No condition beside the statement's own. -/
import Derived.Test.YtkljnmojnkiafaaStFnRoseSides
namespace Go.Proofs.Ytkljnmojnkiafaa.Pure
open Go Go.RowKit Go.Proofs.Ytkljnmojnkiafaa.MFnRoseSides Go.Proofs.YtkljnmojnkiafaaW.PrintWords Go.Proofs.YtkljnmojnkiafaaW.PrintLast Go.Proofs.YtkljnmojnkiafaaW.PrintMore
set_option linter.unusedVariables false
set_option linter.unusedSimpArgs false

theorem ev_succ {α : Type} {g : Nat → Option α} {r : α} (h : Ev (fun k => g (k + 1)) r) : Ev g r := Ev.step (fun _ => rfl) h
theorem ev_ite {α : Type} {c : Prop} [Decidable c] {f g : Nat → Option α} {r : α} (h : c → Ev f r) (h' : ¬ c → Ev g r) : Ev (fun k => if c then f k else g k) r := by
  by_cases hc : c
  · simp only [if_pos hc]; exact h hc
  · simp only [if_neg hc]; exact h' hc
theorem ix {α : Type} {l pre t : List α} {a : α} (h : l = pre ++ a :: t) (hl : l.length < 4611686018427387904) :
    (pre.length : Int) < (l.length : Int) ∧ (∀ d, l.getD pre.length d = a) ∧ wrap64 ((pre.length : Int) + 1) = ((pre ++ [a]).length : Int) ∧ l = (pre ++ [a]) ++ t := by
  subst h
  simp only [List.length_append, List.length_cons, List.length_nil] at *
  refine ⟨by omega, fun d => by simp [List.getD], by unfold wrap64; omega, by simp⟩
theorem ixn {α : Type} {l pre : List α} (h : l = pre ++ []) : ¬ (pre.length : Int) < (l.length : Int) := by
  subst h; simp
theorem nn (n : Nat) : (0 : Int) ≤ (n : Int) := Int.natCast_nonneg n
theorem w64 {n : Int} (h0 : -9223372036854775808 ≤ n) (h1 : n < 9223372036854775808) : wrap64 n = n := by unfold wrap64; omega
theorem mn_min (a b : Int) : mn a b = min a b := by unfold mn; omega
theorem mx_max (a b : Int) : mx a b = max a b := by unfold mx; omega
theorem set_app {α : Type} (pre t : List α) (a b : α) : (pre ++ a :: t).set pre.length b = pre ++ b :: t := by simp
theorem app1 {α : Type} (pre : List α) (a : α) (t : List α) : pre ++ a :: t = (pre ++ [a]) ++ t := by simp

/-- The numbers from c on, n of them. -/
def upto : Nat → Int → List Int
  | 0, _ => []
  | n + 1, c => c :: upto n (c + 1)
theorem upto_length : ∀ n c, (upto n c).length = n
  | 0, _ => rfl
  | n + 1, c => by simp [upto, upto_length n]

theorem impl_isWithin_eq (a b c : Int) : impl_isWithin.f a b c = some (decide (b ≤ a) && decide (a ≤ c)) := by
  unfold impl_isWithin.f; split <;> simp <;> omega
theorem and255 (x : Int) : 0 ≤ Go.bits .and .i64 x 255 ∧ Go.bits .and .i64 x 255 ≤ 255 := by
  have h : ((BitVec.ofInt 64 x) &&& (BitVec.ofInt 64 255)).toNat ≤ 255 := by
    rw [BitVec.toNat_and]
    refine Nat.le_trans Nat.and_le_right ?_
    decide
  have e : Go.bits .and .i64 x 255 = IntKind.i64.wrap (((BitVec.ofInt 64 x) &&& (BitVec.ofInt 64 255)).toNat : Int) := by
    rfl
  rw [e]
  generalize ((BitVec.ofInt 64 x) &&& (BitVec.ofInt 64 255)).toNat = m at h
  rw [IntKind.wrap_i64]; omega
theorem l1Byte_ok (b : List Int) (i h : Int) (hb : b.length < 1099511627776) (hi : 0 ≤ i) : ∃ r i' h', spec_l1Byte.f b i h = some (r, i', h') ∧ 0 ≤ i' ∧ 0 ≤ r ∧ r ≤ 255 := by
  unfold spec_l1Byte.f
  split
  · exact ⟨_, _, _, rfl, by unfold wrap64; omega, and255 _⟩
  · exact ⟨_, _, _, rfl, hi, and255 _⟩
theorem l1Below_ok (b : List Int) (i h n : Int) (hb : b.length < 1099511627776) (hi : 0 ≤ i) : ∃ r i' h', spec_l1Below.f b i h n = some (r, i', h') ∧ 0 ≤ i' ∧ 0 ≤ r ∧ (r < n ∨ n ≤ 0 ∧ r = 0) := by
  unfold spec_l1Below.f
  split
  · exact ⟨_, _, _, rfl, hi, by omega, by omega⟩
  · rename_i hn
    split
    · obtain ⟨r, i', h', e, hi', h0, h1⟩ := l1Byte_ok b i h hb hi
      rw [e]; simp only [Option.bind_some]
      rw [if_neg (by omega)]
      exact ⟨_, _, _, rfl, hi', Int.tmod_nonneg _ h0, .inl (Int.tmod_lt_of_pos _ (by omega))⟩
    · obtain ⟨r, i1, h1, e, hi1, h0, h255⟩ := l1Byte_ok b i h hb hi
      rw [e]; simp only [Option.bind_some]
      obtain ⟨r2, i2, h2, e2, hi2, h02, h2552⟩ := l1Byte_ok b i1 h1 hb hi1
      rw [e2]; simp only [Option.bind_some]
      obtain ⟨r3, i3, h3, e3, hi3, h03, h2553⟩ := l1Byte_ok b i2 h2 hb hi2
      rw [e3]; simp only [Option.bind_some]
      rw [if_neg (by omega)]
      refine ⟨_, _, _, rfl, hi3, Int.tmod_nonneg _ ?_, .inl (Int.tmod_lt_of_pos _ (by omega))⟩
      unfold wrap64; omega
theorem l1New_l0 (b : List Int) (hb : b.length < 1099511627776) : ∀ (d i : Nat) (h : Int), i + d = b.length → ∃ h', Ev (fun k => spec_l1New.l0 k b h (i : Int)) (b, 0, h') := by
  intro d
  induction d with
  | zero =>
    intro i h hd
    refine ⟨h, ev_succ ?_⟩
    simp only [spec_l1New.l0, if_neg (show ¬ ((i : Int) < (b.length : Int)) by omega)]
    exact Ev.now _
  | succ d ih =>
    intro i h hd
    by_cases h4 : (i : Int) < 4000
    · obtain ⟨h', e⟩ := ih (i + 1) _ (by omega)
      refine ⟨h', ev_succ ?_⟩
      simp only [spec_l1New.l0, if_pos (show ((i : Int) < (b.length : Int)) by omega), if_pos h4, if_pos (nn _)]
      rw [show wrap64 ((i : Int) + 1) = ((i + 1 : Nat) : Int) by unfold wrap64; omega]
      exact e
    · refine ⟨h, ev_succ ?_⟩
      simp only [spec_l1New.l0, if_pos (show ((i : Int) < (b.length : Int)) by omega), if_neg h4]
      exact Ev.now _
theorem l1New_ev (b : List Int) (hb : b.length < 1099511627776) : ∃ h', Ev (fun k => spec_l1New.f k b) (b, 0, h') := l1New_l0 b hb b.length 0 _ (by omega)
theorem laws_big_eq (b : List Int) : laws_big.f b = some (decide ((b.length : Int) > 4096)) := rfl
abbrev Gu := S76
abbrev Pl := S66
theorem ix2 {α : Type} {l pre t : List α} {p a : α} (h : l = (pre ++ [p]) ++ a :: t) (hl : l.length < 4611686018427387904) :
    (((pre ++ [p]).length : Int)) > 0 ∧ wrap64 (((pre ++ [p]).length : Int) - 1) = (pre.length : Int) ∧ (∀ d, l.getD pre.length d = p) ∧ (pre.length : Int) < (l.length : Int) := by
  subst h
  simp only [List.length_append, List.length_cons, List.length_nil] at *
  refine ⟨by omega, by unfold wrap64; omega, fun d => by simp [List.getD], by omega⟩
theorem ev_eq {α : Type} {f g : Nat → Option α} {r : α} (h : f = g) (k : Ev g r) : Ev f r := h ▸ k
def drB' (a b : Int) : Bool := (decide (-8 ≤ a) && decide (a ≤ 8)) && (decide (-8 ≤ b) && decide (b ≤ 8))
theorem impl_isDrift_eq (a b : Int) : impl_isDrift.f a b = some (drB' a b) := by
  simp only [impl_isDrift.f, impl_isWithin_eq, Option.bind_some, drB']
  cases (decide (-8 ≤ a) && decide (a ≤ 8)) <;> simp
def gDr (a b : Int) : Bool := (decide (-8 ≤ a) && decide (a ≤ 8)) && (decide (-8 ≤ b) && decide (b ≤ 8))
def gOk (g : Gu) : Bool := (decide (0 ≤ g.f0) && decide (g.f0 ≤ 64)) && gDr g.f1.f0 g.f1.f1
/-- The gusts behind one. -/
def wRest : Gu → List Gu → Bool
  | _, [] => true
  | p, g :: t => gOk g && (decide (p.f0 < g.f0) && wRest g t)
def wAll : List Gu → Bool
  | [] => true
  | g :: t => gOk g && wRest g t
/-- IsWind -/
def pWind (l : List Gu) : Bool := wAll l && decide ((l.length : Int) ≤ 8)
theorem pWind_len {l : List Gu} (h : pWind l = true) : l.length ≤ 8 := by
  simp only [pWind, Bool.and_eq_true, decide_eq_true_eq] at h; omega
/-- The drift at a tick. -/
def pAt (d : Int × Int) (w : List Gu) (t : Int) : Int × Int := w.foldl (fun d g => if g.f0 ≤ t then (g.f1.f0, g.f1.f1) else d) d
theorem impl_IsWind_l0 (l : List Gu) (hl : l.length < 1099511627776) : ∀ (suf pre : List Gu) (p : Gu), l = (pre ++ [p]) ++ suf →
    Ev (fun k => impl_IsWind.l0 k l l (l.length : Int) ((pre ++ [p]).length : Int)) (wRest p suf && decide ((l.length : Int) ≤ 8)) := by
  intro suf
  induction suf with
  | nil =>
    intro pre p h
    refine ev_succ ?_
    simp only [impl_IsWind.l0, if_neg (ixn h), wRest, Bool.true_and]
    exact Ev.now _
  | cons a t ih =>
    intro pre p h
    obtain ⟨h1, h2, h3, h4⟩ := ix h (by omega)
    obtain ⟨h5, h6, h7, h8⟩ := ix2 h (by omega)
    refine ev_succ ?_
    simp only [impl_IsWind.l0, if_pos h1, if_pos (nn _), Int.toNat_natCast, rd_T76, h2, h3, h6, h7, impl_isWithin_eq, impl_isDrift_eq, Option.bind_some, if_pos h5, if_pos h8]
    rw [wRest, gOk]
    change Ev (fun k => if (decide (0 ≤ a.f0) && decide (a.f0 ≤ 64)) = true then if gDr a.f1.f0 a.f1.f1 = true then _ else _ else _) _
    refine ev_ite (fun c1 => ?_) (fun c1 => ?_)
    · rw [c1, Bool.true_and]
      refine ev_ite (fun c2 => ?_) (fun c2 => ?_)
      · rw [c2, Bool.true_and]
        refine ev_ite (fun c3 => ?_) (fun c3 => ?_)
        · rw [decide_eq_false (by omega), Bool.false_and, Bool.false_and]; exact Ev.now _
        · rw [decide_eq_true (by omega), Bool.true_and]; exact ih (pre ++ [p]) a h4
      · rw [Bool.eq_false_iff.2 c2, Bool.false_and, Bool.false_and]; exact Ev.now _
    · rw [Bool.eq_false_iff.2 c1, Bool.false_and, Bool.false_and, Bool.false_and]; exact Ev.now _
theorem impl_IsWind_ev (l : List Gu) (hl : l.length < 1099511627776) : Ev (fun k => impl_IsWind.f k l) (pWind l) := by
  unfold impl_IsWind.f pWind
  refine ev_succ ?_
  cases l with
  | nil =>
    simp only [impl_IsWind.l0]
    exact Ev.now _
  | cons a t =>
    obtain ⟨h1, h2, h3, h4⟩ := ix (l := a :: t) (pre := []) rfl (by omega)
    simp only [List.length_nil, Int.natCast_zero] at h1 h2 h3
    simp only [impl_IsWind.l0, if_pos h1, if_pos (show (0 : Int) ≤ 0 by omega), Int.toNat_zero, rd_T76, h2, h3, impl_isWithin_eq, impl_isDrift_eq, Option.bind_some, if_neg (show ¬ ((0 : Int) > 0) by omega)]
    rw [wAll, gOk]
    change Ev (fun k => if (decide (0 ≤ a.f0) && decide (a.f0 ≤ 64)) = true then if gDr a.f1.f0 a.f1.f1 = true then _ else _ else _) _
    refine ev_ite (fun c1 => ?_) (fun c1 => ?_)
    · rw [c1, Bool.true_and]
      refine ev_ite (fun c2 => ?_) (fun c2 => ?_)
      · rw [c2, Bool.true_and]
        exact impl_IsWind_l0 (a :: t) hl t [] a rfl
      · rw [Bool.eq_false_iff.2 c2, Bool.false_and, Bool.false_and]; exact Ev.now _
    · rw [Bool.eq_false_iff.2 c1, Bool.false_and, Bool.false_and, Bool.false_and]; exact Ev.now _
theorem impl_DriftAt_l0 (l : List Gu) (u : Int) (hl : l.length < 1099511627776) : ∀ (suf pre : List Gu) (d1 d2 : Int), l = pre ++ suf →
    Ev (fun k => impl_DriftAt.l0 k u l (l.length : Int) (pre.length : Int) d1 d2) (pAt (d1, d2) suf u) := by
  intro suf
  induction suf with
  | nil =>
    intro pre d1 d2 h
    refine ev_succ ?_
    simp only [impl_DriftAt.l0, if_neg (ixn h)]
    exact Ev.now _
  | cons a t ih =>
    intro pre d1 d2 h
    obtain ⟨h1, h2, h3, h4⟩ := ix h (by omega)
    refine ev_succ ?_
    simp only [impl_DriftAt.l0, if_pos h1, if_pos (nn _), Int.toNat_natCast, rd_T76, h2, h3]
    rw [pAt, List.foldl_cons]
    refine ev_ite (fun c => ?_) (fun c => ?_)
    · rw [if_pos c]; exact ih _ _ _ h4
    · rw [if_neg c]; exact ih _ _ _ h4
theorem impl_DriftAt_ev (l : List Gu) (u : Int) (hl : l.length < 1099511627776) : Ev (fun k => impl_DriftAt.f k l u) (if pWind l = true then pAt (0, 0) l u else (0, 0)) := by
  unfold impl_DriftAt.f
  refine Ev.bind (impl_IsWind_ev l hl) ?_
  refine ev_ite (fun c => ?_) (fun c => ?_)
  · rw [if_pos c]; exact impl_DriftAt_l0 l u hl l [] 0 0 rfl
  · rw [if_neg c]; exact Ev.now _
theorem impl_DriftAt_ok {l : List Gu} (h : pWind l = true) (u : Int) : Ev (fun k => impl_DriftAt.f k l u) (pAt (0, 0) l u) := by
  have := impl_DriftAt_ev l u (by have := pWind_len h; omega)
  rwa [if_pos h] at this
/-- The sum of n drifts from tick t on. -/
def pOverN (w : List Gu) : Nat → Int → Int × Int → Int × Int
  | 0, _, s => s
  | n + 1, t, s => pOverN w n (t + 1) (wrap64 (s.1 + (pAt (0, 0) w t).1), wrap64 (s.2 + (pAt (0, 0) w t).2))
/-- DriftOver -/
def pOver (w : List Gu) (a b : Int) : Int × Int × Bool :=
  if pWind w = true ∧ 0 ≤ a ∧ a ≤ b ∧ b ≤ 128 then ((pOverN w (b - a).toNat a (0, 0)).1, (pOverN w (b - a).toNat a (0, 0)).2, true) else (0, 0, false)
theorem impl_DriftOver_l0 (w : List Gu) (b : Int) (hw : pWind w = true) (hb : b ≤ 128) : ∀ (n : Nat) (t x y : Int), 0 ≤ t → t + n = b →
    Ev (fun k => impl_DriftOver.l0 k w b t x y) ((pOverN w n t (x, y)).1, (pOverN w n t (x, y)).2, true) := by
  intro n
  induction n with
  | zero =>
    intro t x y h0 h
    refine ev_succ ?_
    simp only [impl_DriftOver.l0, if_neg (show ¬ (t < b) by omega)]
    exact Ev.now _
  | succ n ih =>
    intro t x y h0 h
    refine ev_succ ?_
    simp only [impl_DriftOver.l0, if_pos (show (t < b) by omega)]
    refine Ev.bind (impl_DriftAt_ok hw t) ?_
    rw [show wrap64 (t + 1) = t + 1 by unfold wrap64; omega]
    exact ih (t + 1) _ _ (by omega) (by omega)
theorem impl_DriftOver_ev (w : List Gu) (a b : Int) (hw : w.length < 1099511627776) : Ev (fun k => impl_DriftOver.f k w a b) (pOver w a b) := by
  have j1 : Ev (fun k => impl_DriftOver.j0 k w a b true) (0, 0, false) := by
    refine ev_succ ?_
    simp only [impl_DriftOver.j0, if_true]; exact Ev.now _
  unfold impl_DriftOver.f pOver
  refine Ev.bind (impl_IsWind_ev w hw) ?_
  refine ev_ite (fun h1 => ?_) (fun h1 => ?_)
  · refine ev_ite (fun h2 => ?_) (fun h2 => ?_)
    · rw [if_neg (by omega)]; exact j1
    · refine ev_ite (fun h3 => ?_) (fun h3 => ?_)
      · rw [if_neg (by omega)]; exact j1
      · by_cases h4 : b > 128
        · rw [if_neg (by omega)]; simpa only [decide_eq_true h4] using j1
        · rw [if_pos ⟨h1, by omega, by omega, by omega⟩, decide_eq_false h4]
          refine ev_succ ?_
          simp only [impl_DriftOver.j0, Bool.false_eq_true, if_false]
          exact impl_DriftOver_l0 w b h1 (by omega) (b - a).toNat a 0 0 (by omega) (by omega)
  · rw [if_neg (fun h => h1 h.1)]; exact j1
def rotN : Nat → Int × Int → Int × Int
  | 0, p => p
  | k + 1, p => rotN k (wrap64 (-p.2), p.1)
/-- A place turned by n quarters. -/
def pTurn4 (n : Int) (p : Int × Int) : Int × Int := rotN (n % 4).toNat p
theorem impl_turns_eq (n : Int) : impl_turns.f n = some (n % 4) := by
  unfold impl_turns.f
  by_cases h : 0 ≤ n
  · rw [Int.tmod_eq_emod_of_nonneg h, show wrap64 (n % 4 + 4) = n % 4 + 4 by unfold wrap64; omega, Int.tmod_eq_emod_of_nonneg (by omega)]
    congr 1; omega
  · have h4 : Int.tmod n 4 = -(-n % 4) := by
      rw [← Int.tmod_eq_emod_of_nonneg (a := -n) (b := 4) (by omega), Int.neg_tmod, Int.neg_neg]
    rw [h4, show wrap64 (-(-n % 4) + 4) = -(-n % 4) + 4 by unfold wrap64; omega, Int.tmod_eq_emod_of_nonneg (by omega)]
    congr 1; omega
theorem impl_turned_l0 : ∀ (m : Nat) (i e x y : Int), 0 ≤ i → i + m = e → e < 10 → Ev (fun k => impl_turned.l0 k e i x y) (rotN m (x, y)) := by
  intro m
  induction m with
  | zero =>
    intro i e x y h0 h _
    refine ev_succ ?_
    simp only [impl_turned.l0, if_neg (show ¬ (i < e) by omega)]
    exact Ev.now _
  | succ m ih =>
    intro i e x y h0 h he
    refine ev_succ ?_
    simp only [impl_turned.l0, if_pos (show (i < e) by omega)]
    rw [show wrap64 (i + 1) = i + 1 by unfold wrap64; omega]
    exact ih (i + 1) e _ _ (by omega) (by omega) he
theorem impl_turned_ev (x y n : Int) : Ev (fun k => impl_turned.f k x y n) (pTurn4 n (x, y)) := by
  unfold impl_turned.f pTurn4
  simp only [impl_turns_eq, Option.bind_some]
  exact impl_turned_l0 (n % 4).toNat 0 (n % 4) x y (by omega) (by omega) (by omega)
/-- The order of places. -/
def pCmp (a b c d : Int) : Int := if a < c then -1 else if a = c then (if b < d then -1 else if b = d then 0 else 1) else 1
def rRest.gDr2 (a b : Int) : Bool := (decide (-8 ≤ a) && decide (a ≤ 8)) && (decide (-8 ≤ b) && decide (b ≤ 8))
def rRest : Pl → List Pl → Bool
  | _, [] => true
  | p, q :: t => rRest.gDr2 q.f0 q.f1 && (decide (pCmp p.f0 p.f1 q.f0 q.f1 < 0) && rRest q t)
def rAll : List Pl → Bool
  | [] => true
  | q :: t => rRest.gDr2 q.f0 q.f1 && rRest q t
/-- IsRose -/
def pRose (l : List Pl) : Bool := rAll l && (decide (1 ≤ (l.length : Int)) && decide ((l.length : Int) ≤ 4))
theorem pRose_len {l : List Pl} (h : pRose l = true) : 1 ≤ l.length ∧ l.length ≤ 4 := by
  simp only [pRose, Bool.and_eq_true, decide_eq_true_eq] at h; omega
theorem spec_ComparePlaces_ev (a b c d : Int) : Ev (fun k => spec_ComparePlaces.f k a b c d) (pCmp a b c d) := by
  unfold spec_ComparePlaces.f pCmp
  refine ev_ite (fun h => ?_) (fun h => ?_)
  · rw [if_pos h, decide_eq_true h]
    refine ev_succ ?_
    simp only [spec_ComparePlaces.j0, if_true]; exact Ev.now _
  · rw [if_neg h]
    refine ev_ite (fun h1 => ?_) (fun h1 => ?_)
    · rw [if_pos h1]
      refine ev_succ ?_
      by_cases h2 : b < d
      · simp only [spec_ComparePlaces.j0, decide_eq_true h2, if_true, if_pos h2]; exact Ev.now _
      · simp only [spec_ComparePlaces.j0, decide_eq_false h2, Bool.false_eq_true, if_false, if_neg h2, h1, beq_self_eq_true, Bool.true_and, beq_iff_eq]
        refine ev_ite (fun h3 => ?_) (fun h3 => ?_)
        · rw [if_pos h3]; exact Ev.now _
        · rw [if_neg h3]; exact Ev.now _
    · rw [if_neg h1]
      refine ev_succ ?_
      simp only [spec_ComparePlaces.j0, Bool.false_eq_true, if_false, beq_eq_false_iff_ne.2 h1, Bool.false_and]; exact Ev.now _
def pCmpI (a b : Int) : Int := if a < b then -1 else if a = b then 0 else 1
theorem cmp_Compare_int_eq (a b : Int) : cmp_Compare_int.f a b = some (pCmpI a b) := by
  simp only [cmp_Compare_int.f, cmp_isNaN_int.f, bne_self_eq_false, Option.bind_some, Bool.false_eq_true, if_false, pCmpI]
  repeat' split
  all_goals first | rfl | omega
theorem cmp_Or_int_ev (a b : Int) : Ev (fun k => cmp_Or_int.f k [a, b]) (if a = 0 then b else a) := by
  unfold cmp_Or_int.f
  refine ev_succ ?_
  simp only [cmp_Or_int.l0, List.length_cons, List.length_nil, if_pos (show ((0 : Int) < ((0 + 1 + 1 : Nat) : Int)) by omega), if_pos (show (0 : Int) ≤ 0 by omega), rd, Int.toNat_zero, List.getD_cons_zero]
  refine ev_ite (fun h => ?_) (fun h => ?_)
  · rw [if_pos h, show wrap64 (0 + 1) = 1 by unfold wrap64; omega]
    refine ev_succ ?_
    simp only [cmp_Or_int.l0, List.length_cons, List.length_nil, if_pos (show ((1 : Int) < ((0 + 1 + 1 : Nat) : Int)) by omega), if_pos (show (0 : Int) ≤ 1 by omega), rd, show ((1 : Int).toNat) = 1 from rfl, List.getD_cons_succ, List.getD_cons_zero]
    refine ev_ite (fun h2 => ?_) (fun h2 => Ev.now _)
    rw [show wrap64 (1 + 1) = 2 by unfold wrap64; omega, h2]
    refine ev_succ ?_
    simp only [cmp_Or_int.l0, List.length_cons, List.length_nil, if_neg (show ¬ ((2 : Int) < ((0 + 1 + 1 : Nat) : Int)) by omega)]
    exact Ev.now _
  · rw [if_neg h]; exact Ev.now _
theorem impl_ComparePlaces_ev (a b c d : Int) : Ev (fun k => impl_ComparePlaces.f k a b c d) (pCmp a b c d) := by
  simp only [impl_ComparePlaces.f, cmp_Compare_int_eq, Option.bind_some]
  have := cmp_Or_int_ev (pCmpI a c) (pCmpI b d)
  have e : (if pCmpI a c = 0 then pCmpI b d else pCmpI a c) = pCmp a b c d := by
    unfold pCmpI pCmp
    by_cases h1 : a < c
    · simp [h1]
    · by_cases h2 : a = c
      · simp [h2]
      · simp [h1, h2]
  rw [e] at this
  exact Ev.bind this (Ev.now _)
theorem impl_IsRose_l0 (l : List Pl) (hl : l.length < 1099511627776) : ∀ (suf pre : List Pl) (p : Pl), l = (pre ++ [p]) ++ suf →
    Ev (fun k => impl_IsRose.l0 k l l (l.length : Int) ((pre ++ [p]).length : Int)) (rRest p suf && (decide (1 ≤ (l.length : Int)) && decide ((l.length : Int) ≤ 4))) := by
  intro suf
  induction suf with
  | nil =>
    intro pre p h
    refine ev_succ ?_
    simp only [impl_IsRose.l0, if_neg (ixn h), rRest, Bool.true_and, impl_isWithin_eq, Option.bind_some]
    exact Ev.now _
  | cons a t ih =>
    intro pre p h
    obtain ⟨h1, h2, h3, h4⟩ := ix h (by omega)
    obtain ⟨h5, h6, h7, h8⟩ := ix2 h (by omega)
    refine ev_succ ?_
    simp only [impl_IsRose.l0, if_pos h1, if_pos (nn _), Int.toNat_natCast, rd_T66, h2, h3, h6, h7, impl_isDrift_eq, Option.bind_some, if_pos h5, if_pos h8]
    rw [rRest]
    change Ev (fun k => if rRest.gDr2 a.f0 a.f1 = true then _ else _) _
    refine ev_ite (fun c1 => ?_) (fun c1 => ?_)
    · rw [c1, Bool.true_and]
      refine Ev.bind (impl_ComparePlaces_ev _ _ _ _) ?_
      refine ev_ite (fun c3 => ?_) (fun c3 => ?_)
      · rw [decide_eq_false (by omega), Bool.false_and, Bool.false_and]; exact Ev.now _
      · rw [decide_eq_true (by omega), Bool.true_and]; exact ih (pre ++ [p]) a h4
    · rw [Bool.eq_false_iff.2 c1, Bool.false_and, Bool.false_and]; exact Ev.now _
theorem impl_IsRose_ev (l : List Pl) (hl : l.length < 1099511627776) : Ev (fun k => impl_IsRose.f k l) (pRose l) := by
  unfold impl_IsRose.f pRose
  refine ev_succ ?_
  cases l with
  | nil =>
    simp only [impl_IsRose.l0, impl_isWithin_eq, Option.bind_some]
    exact Ev.now _
  | cons a t =>
    obtain ⟨h1, h2, h3, h4⟩ := ix (l := a :: t) (pre := []) rfl (by omega)
    simp only [List.length_nil, Int.natCast_zero] at h1 h2 h3
    simp only [impl_IsRose.l0, if_pos h1, if_pos (show (0 : Int) ≤ 0 by omega), Int.toNat_zero, rd_T66, h2, h3, impl_isDrift_eq, Option.bind_some, if_neg (show ¬ ((0 : Int) > 0) by omega)]
    rw [rAll]
    change Ev (fun k => if rRest.gDr2 a.f0 a.f1 = true then _ else _) _
    refine ev_ite (fun c1 => ?_) (fun c1 => ?_)
    · rw [c1, Bool.true_and]
      exact impl_IsRose_l0 (a :: t) hl t [] a rfl
    · rw [Bool.eq_false_iff.2 c1, Bool.false_and, Bool.false_and]; exact Ev.now _
def pHead (h : Int) : Bool := decide (0 ≤ h) && decide (h ≤ 3)
theorem impl_IsHeading_eq (h : Int) : impl_IsHeading.f h = some (pHead h) := by
  simp only [impl_IsHeading.f, impl_isWithin_eq, Option.bind_some, pHead]
def wStep (h : Int) (b : Int × Int) (p : Pl) : Int × Int := if (pTurn4 (wrap64 (-h)) (p.f0, p.f1)).1 > (pTurn4 (wrap64 (-h)) b).1 then (p.f0, p.f1) else b
def pWorstL (h : Int) : List Pl → Int × Int
  | [] => (0, 0)
  | p :: t => t.foldl (wStep h) (p.f0, p.f1)
/-- WorstDrift -/
def pWorst (l : List Pl) (h : Int) : Int × Int := if pRose l = true then if pHead h = true then pWorstL h l else (0, 0) else (0, 0)
theorem impl_WorstDrift_l0 (l : List Pl) (h : Int) (hl : l.length < 1099511627776) : ∀ (suf pre : List Pl) (x y : Int), l = pre ++ suf →
    Ev (fun k => impl_WorstDrift.l0 k h l (l.length : Int) (pre.length : Int) x y) (suf.foldl (wStep h) (x, y)) := by
  intro suf
  induction suf with
  | nil =>
    intro pre x y hp
    refine ev_succ ?_
    simp only [impl_WorstDrift.l0, if_neg (ixn hp)]
    exact Ev.now _
  | cons a t ih =>
    intro pre x y hp
    obtain ⟨h1, h2, h3, h4⟩ := ix hp (by omega)
    refine ev_succ ?_
    simp only [impl_WorstDrift.l0, if_pos h1, if_pos (nn _), Int.toNat_natCast, rd_T66, h2, h3]
    refine Ev.bind (impl_turned_ev _ _ _) ?_
    refine Ev.bind (impl_turned_ev _ _ _) ?_
    rw [List.foldl_cons, wStep]
    refine ev_ite (fun c => ?_) (fun c => ?_)
    · rw [if_pos c]; exact ih _ _ _ h4
    · rw [if_neg c]; exact ih _ _ _ h4
theorem impl_WorstDrift_ev (l : List Pl) (h : Int) (hl : l.length < 1099511627776) : Ev (fun k => impl_WorstDrift.f k l h) (pWorst l h) := by
  have j1 : Ev (fun k => impl_WorstDrift.j0 k l h true) (0, 0) := by
    refine ev_succ ?_
    simp only [impl_WorstDrift.j0, if_true]; exact Ev.now _
  unfold impl_WorstDrift.f pWorst
  refine Ev.bind (impl_IsRose_ev l hl) ?_
  refine ev_ite (fun c => ?_) (fun c => ?_)
  · rw [if_pos c]
    simp only [impl_IsHeading_eq, Option.bind_some]
    cases hh : pHead h
    · simpa using j1
    · refine ev_succ ?_
      simp only [impl_WorstDrift.j0, Bool.not_true, Bool.false_eq_true, if_false, if_true]
      cases l with
      | nil => simp [pRose] at c
      | cons a t =>
        obtain ⟨h1, h2, h3, h4⟩ := ix (l := a :: t) (pre := []) rfl (by omega)
        simp only [List.length_nil, Int.natCast_zero] at h1 h2 h3
        simp only [if_pos h1, rd_T66, Int.toNat_zero, h2]
        have := impl_WorstDrift_l0 (a :: t) h hl (a :: t) [] a.f0 a.f1 rfl
        rw [List.foldl_cons, wStep, if_neg (by omega)] at this
        exact this
  · rw [if_neg c]; exact j1
/-- Those gusts that change the drift. -/
def chg : Int × Int → List Gu → List Gu
  | _, [] => []
  | d, g :: t => if (g.f1.f0, g.f1.f1) = d then chg d t else g :: chg (g.f1.f0, g.f1.f1) t
/-- The gusts of a list of drifts, from tick i on. -/
def frm : Int → Int × Int → List Pl → List Gu
  | _, _, [] => []
  | i, d, p :: t => if (p.f0, p.f1) = d then frm (i + 1) d t else ⟨i, ⟨p.f0, p.f1⟩⟩ :: frm (i + 1) (p.f0, p.f1) t
/-- The drifts that f tells, n of them, from tick s on. -/
def lstF (f : Int → Int × Int) : Nat → Int → List Pl
  | 0, _ => []
  | n + 1, s => ⟨(f s).1, (f s).2⟩ :: lstF f n (s + 1)
theorem lstF_length (f : Int → Int × Int) : ∀ n s, (lstF f n s).length = n
  | 0, _ => rfl
  | n + 1, s => by simp [lstF, lstF_length f n]
theorem lstF_congr {f g : Int → Int × Int} : ∀ (n : Nat) (s : Int), (∀ t, s ≤ t → t < s + n → f t = g t) → lstF f n s = lstF g n s
  | 0, _, _ => rfl
  | n + 1, s, h => by
    rw [lstF, lstF, h s (by omega) (by omega), lstF_congr n (s + 1) (fun t h1 h2 => h t (by omega) (by omega))]
theorem chg_length : ∀ (w : List Gu) (d : Int × Int), (chg d w).length ≤ w.length
  | [], _ => by simp [chg]
  | g :: t, d => by
    unfold chg
    split
    · have := chg_length t d; simp; omega
    · have := chg_length t (g.f1.f0, g.f1.f1); simp; omega
theorem frm_length : ∀ (l : List Pl) (i : Int) (d : Int × Int), (frm i d l).length ≤ l.length
  | [], _, _ => by simp [frm]
  | p :: t, i, d => by
    unfold frm
    split
    · have := frm_length t (i + 1) d; simp; omega
    · have := frm_length t (i + 1) (p.f0, p.f1); simp; omega
def asc : Int → List Gu → Prop
  | _, [] => True
  | s, g :: t => s ≤ g.f0 ∧ asc (g.f0 + 1) t
theorem asc_le : ∀ {w : List Gu} {s s' : Int}, s' ≤ s → asc s w → asc s' w
  | [], _, _, _, _ => trivial
  | g :: t, s, s', h, k => ⟨Int.le_trans h k.1, k.2⟩
theorem asc_mem : ∀ {w : List Gu} {s : Int}, asc s w → ∀ g ∈ w, s ≤ g.f0
  | [], _, _, g, hg => by simp at hg
  | a :: t, s, h, g, hg => by
    rcases List.mem_cons.1 hg with rfl | hg
    · exact h.1
    · have := asc_mem h.2 g hg
      have := h.1
      omega
theorem pAt_before : ∀ {w : List Gu} {s : Int} (d : Int × Int) (t : Int), asc s w → t < s → pAt d w t = d
  | [], _, _, _, _, _ => rfl
  | g :: w, s, d, t, h, ht => by
    have h1 := h.1
    rw [pAt, List.foldl_cons, if_neg (by omega)]
    exact pAt_before d t h.2 (by omega)
theorem pAt_cons (d : Int × Int) (g : Gu) (w : List Gu) (t : Int) : pAt d (g :: w) t = pAt (if g.f0 ≤ t then (g.f1.f0, g.f1.f1) else d) w t := rfl
/-- What changes, told by the drifts alone. -/
theorem chg_frm : ∀ (n : Nat) (s : Int) (d : Int × Int) (w : List Gu), asc s w → (∀ g ∈ w, g.f0 < s + n) → chg d w = frm s d (lstF (pAt d w) n s) := by
  intro n
  induction n with
  | zero =>
    intro s d w ha hb
    cases w with
    | nil => rfl
    | cons g t =>
      have := hb g (by simp)
      have := ha.1
      omega
  | succ n ih =>
    intro s d w ha hb
    rw [lstF, frm]
    cases w with
    | nil =>
      have h1 : pAt d [] s = d := rfl
      rw [h1, if_pos rfl]
      exact ih (s + 1) d [] trivial (fun g hg => by simp at hg)
    | cons g t =>
      have ha1 := ha.1
      by_cases hg : g.f0 = s
      · have h1 : pAt d (g :: t) s = (g.f1.f0, g.f1.f1) := by
          rw [pAt_cons, if_pos (by omega)]
          exact pAt_before _ s ha.2 (by omega)
        have h2 : lstF (pAt d (g :: t)) n (s + 1) = lstF (pAt (g.f1.f0, g.f1.f1) t) n (s + 1) := by
          refine lstF_congr n (s + 1) (fun t' h3 h4 => ?_)
          rw [pAt_cons, if_pos (by omega)]
        have h3 := ih (s + 1) (g.f1.f0, g.f1.f1) t (by have := ha.2; rwa [hg] at this) (fun g' hg' => by have := hb g' (by simp [hg']); omega)
        rw [h1, h2, chg]
        by_cases hd : (g.f1.f0, g.f1.f1) = d
        · rw [if_pos hd, if_pos hd, ← hd]; exact h3
        · rw [if_neg hd, if_neg hd, h3, ← hg]
      · have h1 : pAt d (g :: t) s = d := by
          rw [pAt_cons, if_neg (by omega)]
          exact pAt_before _ s ha.2 (by omega)
        rw [h1, if_pos rfl]
        exact ih (s + 1) d (g :: t) ⟨by omega, ha.2⟩ (fun g' hg' => by have := hb g' hg'; omega)
theorem pAt_chg : ∀ (w : List Gu) (s : Int) (d : Int × Int) (t : Int), asc s w → pAt d (chg d w) t = pAt d w t
  | [], _, _, _, _ => rfl
  | g :: w, s, d, t, h => by
    rw [chg]
    by_cases hd : (g.f1.f0, g.f1.f1) = d
    · rw [if_pos hd, pAt_chg w _ d t h.2, pAt_cons, hd]
      congr 1; split <;> rfl
    · rw [if_neg hd, pAt_cons, pAt_cons]
      by_cases ht : g.f0 ≤ t
      · rw [if_pos ht]; exact pAt_chg w _ _ t h.2
      · rw [if_neg ht]
        have hc : asc (g.f0 + 1) (chg (g.f1.f0, g.f1.f1) w) := by
          have : ∀ (w : List Gu) (s : Int) (d : Int × Int), asc s w → asc s (chg d w) := by
            intro w
            induction w with
            | nil => intro s d _; trivial
            | cons a w ih =>
              intro s d h
              have := h.1
              rw [chg]
              split
              · exact asc_le (show s ≤ a.f0 + 1 by omega) (ih _ d h.2)
              · exact ⟨h.1, ih _ _ h.2⟩
          exact this w _ _ h.2
        rw [pAt_before d t hc (by omega), pAt_before d t h.2 (by omega)]
theorem asc_chg : ∀ (w : List Gu) (s : Int) (d : Int × Int), asc s w → asc s (chg d w)
  | [], _, _, _ => trivial
  | a :: w, s, d, h => by
    have := h.1
    rw [chg]
    split
    · exact asc_le (show s ≤ a.f0 + 1 by omega) (asc_chg w _ d h.2)
    · exact ⟨h.1, asc_chg w _ _ h.2⟩
theorem chg_mem : ∀ (w : List Gu) (d : Int × Int), ∀ g ∈ chg d w, g ∈ w
  | [], _, g, hg => by simp [chg] at hg
  | a :: w, d, g, hg => by
    rw [chg] at hg
    split at hg
    · exact List.mem_cons_of_mem _ (chg_mem w d g hg)
    · rcases List.mem_cons.1 hg with rfl | hg
      · simp
      · exact List.mem_cons_of_mem _ (chg_mem w _ g hg)
theorem chg_idem : ∀ (w : List Gu) (d : Int × Int), chg d (chg d w) = chg d w
  | [], _ => rfl
  | a :: w, d => by
    rw [chg]
    split
    · exact chg_idem w d
    · rename_i h
      rw [chg, if_neg h, chg_idem w]
theorem wRest_iff : ∀ (t : List Gu) (p : Gu), wRest p t = true ↔ asc (p.f0 + 1) t ∧ ∀ g ∈ t, gOk g = true
  | [], p => by simp [wRest, asc]
  | a :: t, p => by
    simp only [wRest, Bool.and_eq_true, decide_eq_true_eq, wRest_iff t a, asc, List.mem_cons, forall_eq_or_imp]
    constructor
    · rintro ⟨h1, h2, h3, h4⟩; exact ⟨⟨by omega, h3⟩, h1, h4⟩
    · rintro ⟨⟨h1, h2⟩, h3, h4⟩; exact ⟨h3, by omega, h2, h4⟩
theorem gOk_from {g : Gu} (h : gOk g = true) : 0 ≤ g.f0 ∧ g.f0 ≤ 64 := by
  simp only [gOk, Bool.and_eq_true, decide_eq_true_eq] at h; exact h.1
theorem pWind_iff (w : List Gu) : pWind w = true ↔ (asc 0 w ∧ ∀ g ∈ w, gOk g = true) ∧ w.length ≤ 8 := by
  cases w with
  | nil => simp [pWind, wAll, asc]
  | cons a t =>
    simp only [pWind, wAll, Bool.and_eq_true, decide_eq_true_eq, wRest_iff, asc, List.mem_cons, forall_eq_or_imp]
    constructor
    · rintro ⟨⟨h1, h2, h3⟩, h4⟩; exact ⟨⟨⟨(gOk_from h1).1, h2⟩, h1, h3⟩, by omega⟩
    · rintro ⟨⟨⟨h0, h2⟩, h1, h3⟩, h4⟩; exact ⟨⟨h1, h2, h3⟩, by omega⟩
theorem pWind_chg {w : List Gu} (h : pWind w = true) : pWind (chg (0, 0) w) = true := by
  rw [pWind_iff] at h ⊢
  exact ⟨⟨asc_chg _ _ _ h.1.1, fun g hg => h.1.2 g (chg_mem _ _ g hg)⟩, Nat.le_trans (chg_length _ _) h.2⟩
theorem ev_ne {α : Type} {a b x y : Int} {f g : Nat → Option α} {r : α} (h : (a, b) ≠ (x, y) → Ev f r) (h' : (a, b) = (x, y) → Ev g r) : Ev (fun k => if (!(a == x) || (!(b == y))) = true then f k else g k) r := by
  by_cases e : (a, b) = (x, y)
  · have := Prod.mk.inj e
    rw [show (!(a == x) || (!(b == y))) = false by simp [this.1, this.2]]
    simpa using h' e
  · have : (!(a == x) || (!(b == y))) = true := by
      by_cases h1 : a = x
      · by_cases h2 : b = y
        · exact absurd (by rw [h1, h2]) e
        · simp [h2]
      · simp [h1]
    rw [this]
    simpa using h e
def pMeas' (x : Int) : Bool := decide (-4096 ≤ x) && decide (x ≤ 4096)
theorem impl_IsMeasure_eq (x : Int) : impl_IsMeasure.f x = some (pMeas' x) := by
  simp only [impl_IsMeasure.f, impl_isWithin_eq, Option.bind_some, pMeas']
def pPlace (x y : Int) : Bool := (decide (-4096 ≤ x) && decide (x ≤ 4096)) && (decide (-4096 ≤ y) && decide (y ≤ 4096))
theorem impl_IsPlace_eq (x y : Int) : impl_IsPlace.f x y = some (pPlace x y) := by
  simp only [impl_IsPlace.f, impl_IsMeasure_eq, Option.bind_some, pPlace, pMeas']
  cases (decide (-4096 ≤ x) && decide (x ≤ 4096)) <;> simp
def boxGo : List Pl → Int → Int → Int → Int → Int × Int × Int × Int × Bool
  | [], a, b, c, d => (a, b, c, d, true)
  | p :: t, a, b, c, d => if pPlace p.f0 p.f1 = true then boxGo t (min a p.f0) (min b p.f1) (max c p.f0) (max d p.f1) else (0, 0, 0, 0, false)
/-- BoxOf -/
def pBox : List Pl → Int × Int × Int × Int × Bool
  | [] => (0, 0, 0, 0, false)
  | p :: t => boxGo (p :: t) p.f0 p.f1 p.f0 p.f1
theorem impl_BoxOf_l0 (l : List Pl) (hl : l.length < 1099511627776) : ∀ (suf pre : List Pl) (a b c d : Int), l = pre ++ suf →
    Ev (fun k => impl_BoxOf.l0 k l (l.length : Int) (pre.length : Int) a b c d) (boxGo suf a b c d) := by
  intro suf
  induction suf with
  | nil =>
    intro pre a b c d h
    refine ev_succ ?_
    simp only [impl_BoxOf.l0, if_neg (ixn h), boxGo]
    exact Ev.now _
  | cons p t ih =>
    intro pre a b c d h
    obtain ⟨h1, h2, h3, h4⟩ := ix h (by omega)
    refine ev_succ ?_
    simp only [impl_BoxOf.l0, if_pos h1, if_pos (nn _), Int.toNat_natCast, rd_T66, h2, h3, impl_IsPlace_eq, Option.bind_some, mn_min, mx_max]
    rw [boxGo]
    refine ev_ite (fun e => ?_) (fun e => ?_)
    · rw [if_pos e]; exact ih _ _ _ _ _ h4
    · rw [if_neg e]; exact Ev.now _
theorem impl_BoxOf_ev (l : List Pl) (hl : l.length < 1099511627776) : Ev (fun k => impl_BoxOf.f k l) (pBox l) := by
  unfold impl_BoxOf.f
  cases l with
  | nil => simp only [List.length_nil]; exact Ev.now _
  | cons p t =>
    obtain ⟨h1, h2, h3, h4⟩ := ix (l := p :: t) (pre := []) rfl (by omega)
    simp only [List.length_nil, Int.natCast_zero] at h1 h2 h3
    simp only [if_pos h1, if_neg (show ¬ (((p :: t).length : Int) = 0) by omega), rd_T66, Int.toNat_zero, h2]
    exact impl_BoxOf_l0 (p :: t) hl (p :: t) [] _ _ _ _ rfl
/-- RoseBox -/
def pRoseBox (l : List Pl) (n : Int) : Int × Int × Int × Int × Bool :=
  if pRose l = true then if 0 ≤ n ∧ n ≤ 128 then (wrap64 (n * (pBox l).1), wrap64 (n * (pBox l).2.1), wrap64 (n * (pBox l).2.2.1), wrap64 (n * (pBox l).2.2.2.1), true) else (0, 0, 0, 0, false) else (0, 0, 0, 0, false)
theorem impl_RoseBox_ev (l : List Pl) (n : Int) (hl : l.length < 1099511627776) : Ev (fun k => impl_RoseBox.f k l n) (pRoseBox l n) := by
  unfold impl_RoseBox.f pRoseBox
  refine Ev.bind (impl_IsRose_ev l hl) ?_
  refine ev_ite (fun e => ?_) (fun e => ?_)
  · rw [if_pos e]
    simp only [impl_isWithin_eq, Option.bind_some, Bool.and_eq_true, decide_eq_true_eq]
    refine ev_ite (fun h0 => ?_) (fun h0 => ?_)
    · rw [if_pos h0]; exact Ev.bind (impl_BoxOf_ev l hl) (Ev.now _)
    · rw [if_neg h0]; exact Ev.now _
  · rw [if_neg e]; exact Ev.now _
def inRose (l : List Pl) (d : Int × Int) : Bool := l.any (fun p => (p.f0 == d.1) && (p.f1 == d.2))
def fitsN (w : List Gu) (r : List Pl) : Nat → Int → Bool
  | 0, _ => true
  | n + 1, t => inRose r (pAt (0, 0) w t) && fitsN w r n (t + 1)
/-- FitsRose -/
def pFits (w : List Gu) (r : List Pl) (n : Int) : Bool := if pWind w = true ∧ pRose r = true ∧ n ≤ 128 then fitsN w r n.toNat 0 else false
theorem idxPlace_l0 (l : List Pl) (x y : Int) (hl : l.length < 1099511627776) : ∀ (suf pre : List Pl), l = pre ++ suf →
    ∃ i : Int, Ev (fun k => impl_Place_124.l0 k l (l.length : Int) (pre.length : Int) x y) i ∧ (decide (i ≥ 0) = inRose suf (x, y)) := by
  intro suf
  induction suf with
  | nil =>
    intro pre h
    refine ⟨-1, ev_succ ?_, by simp [inRose]⟩
    simp only [impl_Place_124.l0, if_neg (ixn h)]
    exact Ev.now _
  | cons a t ih =>
    intro pre h
    obtain ⟨h1, h2, h3, h4⟩ := ix h (by omega)
    by_cases c : ((a.f0 == x) && (a.f1 == y)) = true
    · have c' : (x == a.f0 && (y == a.f1)) = true := by
        simp only [Bool.and_eq_true, beq_iff_eq] at c ⊢
        exact ⟨c.1.symm, c.2.symm⟩
      refine ⟨(pre.length : Int), ev_succ ?_, ?_⟩
      · simp only [impl_Place_124.l0, if_pos h1, if_pos (nn _), Int.toNat_natCast, rd_T66, h2, c', if_true]
        exact Ev.now _
      · rw [inRose, List.any_cons, c, Bool.true_or]; simp
    · have c' : ¬ ((x == a.f0 && (y == a.f1)) = true) := by
        intro h
        simp only [Bool.and_eq_true, beq_iff_eq] at c h
        exact c ⟨h.1.symm, h.2.symm⟩
      obtain ⟨i, e, hi⟩ := ih _ h4
      refine ⟨i, ev_succ ?_, ?_⟩
      · simp only [impl_Place_124.l0, if_pos h1, if_pos (nn _), Int.toNat_natCast, rd_T66, h2, h3, if_neg c']
        exact e
      · rw [inRose, List.any_cons, Bool.eq_false_iff.2 c, Bool.false_or]; exact hi
theorem contPlace_ev (l : List Pl) (x y : Int) (hl : l.length < 1099511627776) : Ev (fun k => impl_Place_82.f k l x y) (inRose l (x, y)) := by
  obtain ⟨i, e, hi⟩ := idxPlace_l0 l x y hl l [] rfl
  unfold impl_Place_82.f
  refine Ev.bind e ?_
  rw [← hi]; exact Ev.now _
theorem impl_FitsRose_l0 (w : List Gu) (r : List Pl) (e : Int) (hw : pWind w = true) (hr : r.length < 1099511627776) (he : e ≤ 128) : ∀ (n : Nat) (t : Int), 0 ≤ t → t + n = e →
    Ev (fun k => impl_FitsRose.l0 k w r e t) (fitsN w r n t) := by
  intro n
  induction n with
  | zero =>
    intro t h0 h
    refine ev_succ ?_
    simp only [impl_FitsRose.l0, if_neg (show ¬ (t < e) by omega), fitsN]
    exact Ev.now _
  | succ n ih =>
    intro t h0 h
    refine ev_succ ?_
    simp only [impl_FitsRose.l0, if_pos (show t < e by omega)]
    refine Ev.bind (impl_DriftAt_ok hw t) ?_
    refine Ev.bind (contPlace_ev r _ _ hr) ?_
    rw [fitsN]
    refine ev_ite (fun c => ?_) (fun c => ?_)
    · rw [c, Bool.true_and, show wrap64 (t + 1) = t + 1 by unfold wrap64; omega]; exact ih (t + 1) (by omega) (by omega)
    · rw [Bool.eq_false_iff.2 c, Bool.false_and]; exact Ev.now _
theorem impl_FitsRose_ev (w : List Gu) (r : List Pl) (n : Int) (hw : w.length < 1099511627776) (hr : r.length < 1099511627776) : Ev (fun k => impl_FitsRose.f k w r n) (pFits w r n) := by
  have j1 : Ev (fun k => impl_FitsRose.j0 k w r n true) false := by
    refine ev_succ ?_
    simp only [impl_FitsRose.j0, if_true]; exact Ev.now _
  unfold impl_FitsRose.f pFits
  refine Ev.bind (impl_IsWind_ev w hw) ?_
  refine ev_ite (fun c => ?_) (fun c => ?_)
  · refine Ev.bind (impl_IsRose_ev r hr) ?_
    refine ev_ite (fun c2 => ?_) (fun c2 => ?_)
    · by_cases h : n > 128
      · rw [if_neg (by omega)]; simpa only [decide_eq_true h] using j1
      · rw [if_pos ⟨c, c2, by omega⟩, decide_eq_false h]
        refine ev_succ ?_
        simp only [impl_FitsRose.j0, Bool.false_eq_true, if_false]
        by_cases hn : 0 ≤ n
        · exact impl_FitsRose_l0 w r n c hr (by omega) n.toNat 0 (by omega) (by omega)
        · rw [show n.toNat = 0 by omega, fitsN]
          refine ev_succ ?_
          simp only [impl_FitsRose.l0, if_neg (show ¬ (0 < n) by omega)]
          exact Ev.now _
    · rw [if_neg (fun h => c2 h.2.1)]; exact j1
  · rw [if_neg (fun h => c h.1)]; exact j1
theorem l1Some_ok (b : List Int) (i h lo hi : Int) (hb : b.length < 1099511627776) (hi0 : 0 ≤ i) (h1 : lo ≤ hi) (h2 : -100000 ≤ lo) (h3 : hi ≤ 100000) : ∃ r i' h', spec_l1Some.f b i h lo hi = some (r, i', h') ∧ 0 ≤ i' ∧ lo ≤ r ∧ r ≤ hi := by
  unfold spec_l1Some.f
  obtain ⟨r, i', h', e, hi', h0, hr⟩ := l1Below_ok b i h (wrap64 ((wrap64 (hi - lo)) + 1)) hb hi0
  rw [e]; simp only [Option.bind_some]
  have : wrap64 ((wrap64 (hi - lo)) + 1) = hi - lo + 1 := by unfold wrap64; omega
  rw [this] at hr
  exact ⟨_, _, _, rfl, hi', by unfold wrap64; omega, by unfold wrap64; omega⟩
theorem l4DriftDraw_ok (b : List Int) (i h : Int) (hb : b.length < 1099511627776) (hi0 : 0 ≤ i) : ∃ x y i' h', spec_l4DriftDraw.f b i h = some (x, y, i', h') ∧ 0 ≤ i' ∧ (-3 ≤ x ∧ x ≤ 3) ∧ (-3 ≤ y ∧ y ≤ 3) := by
  unfold spec_l4DriftDraw.f
  obtain ⟨x, i1, h1, e1, hi1, hx⟩ := l1Some_ok b i h (-3) 3 hb hi0 (by omega) (by omega) (by omega)
  rw [e1]; simp only [Option.bind_some]
  obtain ⟨y, i2, h2, e2, hi2, hy⟩ := l1Some_ok b i1 h1 (-3) 3 hb hi1 (by omega) (by omega) (by omega)
  rw [e2]; simp only [Option.bind_some]
  exact ⟨_, _, _, _, rfl, hi2, hx, hy⟩
theorem asc_snoc : ∀ (w : List Gu) (s : Int) (g : Gu), asc s w → (∀ x ∈ w, x.f0 < g.f0) → s ≤ g.f0 → asc s (w ++ [g])
  | [], s, g, _, _, h => ⟨h, trivial⟩
  | a :: w, s, g, h, hb, hs => ⟨h.1, asc_snoc w _ g h.2 (fun x hx => hb x (by simp [hx])) (by have := hb a (by simp); omega)⟩
theorem pTurn4_cases (n : Int) : (n % 4 = 0 ∧ ∀ x y : Int, (-1000000 ≤ x ∧ x ≤ 1000000) ∧ (-1000000 ≤ y ∧ y ≤ 1000000) → pTurn4 n (x, y) = (x, y)) ∨ (n % 4 = 1 ∧ ∀ x y : Int, (-1000000 ≤ x ∧ x ≤ 1000000) ∧ (-1000000 ≤ y ∧ y ≤ 1000000) → pTurn4 n (x, y) = (-y, x)) ∨
    (n % 4 = 2 ∧ ∀ x y : Int, (-1000000 ≤ x ∧ x ≤ 1000000) ∧ (-1000000 ≤ y ∧ y ≤ 1000000) → pTurn4 n (x, y) = (-x, -y)) ∨ (n % 4 = 3 ∧ ∀ x y : Int, (-1000000 ≤ x ∧ x ≤ 1000000) ∧ (-1000000 ≤ y ∧ y ≤ 1000000) → pTurn4 n (x, y) = (y, -x)) := by
  have h : n % 4 = 0 ∨ n % 4 = 1 ∨ n % 4 = 2 ∨ n % 4 = 3 := by omega
  rcases h with h | h | h | h
  · exact .inl ⟨h, fun x y _ => by rw [pTurn4, h]; rfl⟩
  · refine .inr (.inl ⟨h, fun x y hb => ?_⟩)
    rw [pTurn4, h, show ((1 : Int)).toNat = 1 from rfl]
    simp only [rotN, Prod.mk.injEq]
    exact ⟨by unfold wrap64; omega, trivial⟩
  · refine .inr (.inr (.inl ⟨h, fun x y hb => ?_⟩))
    rw [pTurn4, h, show ((2 : Int)).toNat = 2 from rfl]
    simp only [rotN, Prod.mk.injEq]
    exact ⟨by unfold wrap64; omega, by unfold wrap64; omega⟩
  · refine .inr (.inr (.inr ⟨h, fun x y hb => ?_⟩))
    rw [pTurn4, h, show ((3 : Int)).toNat = 3 from rfl]
    simp only [rotN, Prod.mk.injEq]
    exact ⟨by unfold wrap64; omega, by unfold wrap64; omega⟩
theorem pTurn4_bound (n : Int) {x y B : Int} (hB : B ≤ 1000000) (h : (-B ≤ x ∧ x ≤ B) ∧ (-B ≤ y ∧ y ≤ B)) : (-B ≤ (pTurn4 n (x, y)).1 ∧ (pTurn4 n (x, y)).1 ≤ B) ∧ (-B ≤ (pTurn4 n (x, y)).2 ∧ (pTurn4 n (x, y)).2 ≤ B) := by
  rcases pTurn4_cases n with ⟨_, e⟩ | ⟨_, e⟩ | ⟨_, e⟩ | ⟨_, e⟩
  all_goals
    rw [e x y (by omega)]
    omega
theorem pTurn4_add (n : Int) {x y u v : Int} (h : (-100000 ≤ x ∧ x ≤ 100000) ∧ (-100000 ≤ y ∧ y ≤ 100000)) (k : (-100000 ≤ u ∧ u ≤ 100000) ∧ (-100000 ≤ v ∧ v ≤ 100000)) :
    pTurn4 n (x + u, y + v) = ((pTurn4 n (x, y)).1 + (pTurn4 n (u, v)).1, (pTurn4 n (x, y)).2 + (pTurn4 n (u, v)).2) := by
  rcases pTurn4_cases n with ⟨_, e⟩ | ⟨_, e⟩ | ⟨_, e⟩ | ⟨_, e⟩
  all_goals
    rw [e x y (by omega), e u v (by omega), e (x + u) (y + v) (by omega)]
    (try (apply Prod.ext <;> (try dsimp only) <;> omega))
theorem pTurn4_back (n m : Int) (hm : (n + m) % 4 = 0) {x y : Int} (h : (-100000 ≤ x ∧ x ≤ 100000) ∧ (-100000 ≤ y ∧ y ≤ 100000)) : pTurn4 m (pTurn4 n (x, y)) = (x, y) := by
  rcases pTurn4_cases n with ⟨hn, e⟩ | ⟨hn, e⟩ | ⟨hn, e⟩ | ⟨hn, e⟩ <;> rcases pTurn4_cases m with ⟨hk, e'⟩ | ⟨hk, e'⟩ | ⟨hk, e'⟩ | ⟨hk, e'⟩
  all_goals first
    | (exfalso; omega)
    | (rw [e x y (by omega), e' _ _ (by omega)]; try (apply Prod.ext <;> (try dsimp only) <;> omega))
theorem back_turns (n : Int) : (n + wrap64 (4 - Int.tmod n 4)) % 4 = 0 := by
  have : -3 ≤ Int.tmod n 4 ∧ Int.tmod n 4 ≤ 3 ∧ (n - Int.tmod n 4) % 4 = 0 := by
    by_cases h : 0 ≤ n
    · rw [Int.tmod_eq_emod_of_nonneg h]; omega
    · have h4 : Int.tmod n 4 = -(-n % 4) := by
        rw [← Int.tmod_eq_emod_of_nonneg (a := -n) (b := 4) (by omega), Int.neg_tmod, Int.neg_neg]
      rw [h4]; omega
  rw [show wrap64 (4 - Int.tmod n 4) = 4 - Int.tmod n 4 by unfold wrap64; omega]
  omega
/-- A place put into a sorted list. -/
def insP (p : Pl) : List Pl → List Pl
  | [] => [p]
  | d :: t => if pCmp d.f0 d.f1 p.f0 p.f1 < 0 then d :: insP p t else if d.f0 = p.f0 ∧ d.f1 = p.f1 then d :: t else p :: d :: t
theorem pCmp_lt (a b c d : Int) : pCmp a b c d < 0 ↔ a < c ∨ (a = c ∧ b < d) := by
  unfold pCmp
  by_cases h1 : a < c
  · simp [h1]
  · by_cases h2 : a = c
    · rw [if_neg h1, if_pos h2]
      by_cases h3 : b < d
      · simp [h2, h3]
      · rw [if_neg h3]; split <;> simp [h1, h2, h3]
    · simp [h1, h2]
def plLt (a b : Pl) : Prop := pCmp a.f0 a.f1 b.f0 b.f1 < 0
theorem plLt_iff (a b : Pl) : plLt a b ↔ a.f0 < b.f0 ∨ (a.f0 = b.f0 ∧ a.f1 < b.f1) := pCmp_lt _ _ _ _
theorem insP_mem (p : Pl) : ∀ (l : List Pl) (x : Pl), x ∈ insP p l → x = p ∨ x ∈ l
  | [], x, h => by simp [insP] at h; exact .inl h
  | d :: t, x, h => by
    unfold insP at h
    split at h
    · cases h with
      | head => exact .inr (by simp)
      | tail _ h => rcases insP_mem p t x h with e | e
                    · exact .inl e
                    · exact .inr (by simp [e])
    · split at h
      · exact .inr h
      · simp at h; rcases h with e | e | e
        · exact .inl e
        · exact .inr (by simp [e])
        · exact .inr (by simp [e])
theorem insP_len (p : Pl) : ∀ (l : List Pl), 1 ≤ (insP p l).length ∧ (insP p l).length ≤ l.length + 1
  | [] => by simp [insP]
  | d :: t => by
    unfold insP
    have := insP_len p t
    split
    · simp; omega
    · split
      · simp
      · simp
theorem insP_sorted (p : Pl) : ∀ (l : List Pl), l.Pairwise plLt → (insP p l).Pairwise plLt
  | [], _ => by simp [insP]
  | d :: t, h => by
    rw [List.pairwise_cons] at h
    unfold insP
    split
    · rename_i hc
      rw [List.pairwise_cons]
      refine ⟨fun x hx => ?_, insP_sorted p t h.2⟩
      rcases insP_mem p t x hx with e | e
      · rw [e]; exact hc
      · exact h.1 x e
    · rename_i hc
      split
      · rw [List.pairwise_cons]; exact h
      · rename_i hc2
        have hd : plLt p d := by
          rw [pCmp_lt] at hc; rw [plLt_iff]; omega
        rw [List.pairwise_cons, List.pairwise_cons]
        refine ⟨fun x hx => ?_, h⟩
        cases hx with
        | head => exact hd
        | tail _ hx =>
          have := h.1 x hx
          rw [plLt_iff] at *; omega
theorem rRest_of : ∀ (l : List Pl) (p : Pl), (∀ x ∈ l, rRest.gDr2 x.f0 x.f1 = true) → (p :: l).Pairwise plLt → rRest p l = true
  | [], _, _, _ => rfl
  | q :: t, p, h, hp => by
    rw [List.pairwise_cons] at hp
    rw [rRest, h q (by simp), Bool.true_and, rRest_of t q (fun x hx => h x (by simp [hx])) hp.2, Bool.and_true]
    exact decide_eq_true (hp.1 q (by simp))
theorem pRose_of {l : List Pl} (h : ∀ x ∈ l, rRest.gDr2 x.f0 x.f1 = true) (hp : l.Pairwise plLt) (h1 : 1 ≤ l.length) (h4 : l.length ≤ 4) : pRose l = true := by
  cases l with
  | nil => simp at h1
  | cons q t =>
    rw [pRose, rAll, h q (by simp), Bool.true_and, rRest_of t q (fun x hx => h x (by simp [hx])) hp, Bool.true_and]
    simp only [Bool.and_eq_true, decide_eq_true_eq]; omega
theorem SortedPlaces_l1 (p : Pl) (x9 : List Pl) (x10 x11 : Int) (R : List Pl) : ∀ (suf pre : List Pl), (pre ++ suf).length < 1000000 →
    Ev (fun k => spec_SortedPlaces.l0 k (pre ++ insP p suf) x9 x10 (wrap64 (x11 + 1))) R →
    Ev (fun k => spec_SortedPlaces.l1 k (pre ++ suf) (pre.length : Int) x9 x10 x11 p.f0 p.f1) R := by
  intro suf
  induction suf with
  | nil =>
    intro pre hl h
    have hl' := hl
    rw [List.append_nil] at hl'
    refine ev_succ ?_
    simp only [spec_SortedPlaces.l1, List.append_nil, if_neg (show ¬ ((pre.length : Int) < (pre.length : Int)) by omega), if_true, if_pos (nn _), if_pos (show (pre.length : Int) ≤ (pre.length : Int) by omega), Int.toNat_natCast, List.take_length, List.drop_length, Option.bind_some, List.nil_append]
    refine ev_ite (fun _ => ?_) (fun c => absurd (by first | omega | (simp; omega)) c)
    refine ev_ite (fun _ => ?_) (fun c => absurd (by first | omega | (simp; omega)) c)
    refine ev_ite (fun _ => ?_) (fun c => absurd (by first | omega | (simp; omega)) c)
    exact h
  | cons d t ih =>
    intro pre hl h
    obtain ⟨h1, h2, h3, h4⟩ := ix (l := pre ++ d :: t) rfl (by omega)
    have hl' := hl
    rw [List.length_append, List.length_cons] at hl'
    have hne : ¬ (pre.length : Int) = ((pre ++ d :: t).length : Int) := by omega
    have hle : (pre.length : Int) ≤ ((pre ++ d :: t).length : Int) := by omega
    refine ev_succ ?_
    simp only [spec_SortedPlaces.l1, if_pos h1, if_pos (nn _), Int.toNat_natCast, rd_T66, h2, h3]
    refine Ev.bind (spec_ComparePlaces_ev _ _ _ _) ?_
    rw [insP] at h
    refine ev_ite (fun c => ?_) (fun c => ?_)
    · rw [if_pos c] at h
      rw [app1]
      refine ih (pre ++ [d]) (by simpa using hl) ?_
      rwa [← app1]
    · rw [if_neg c] at h
      simp only [if_neg hne, if_pos hle, List.take_left, List.drop_left, Option.bind_some, List.nil_append]
      refine ev_ite (fun e => ?_) (fun e => ?_)
      · rw [if_neg (by intro hh; rw [hh.1, hh.2] at e; simp at e)] at h
        refine ev_ite (fun _ => ?_) (fun c => absurd (by first | omega | (simp; omega)) c)
        refine ev_ite (fun _ => ?_) (fun c => absurd (by first | omega | (simp; omega)) c)
        refine ev_ite (fun _ => ?_) (fun c => absurd (by first | omega | (simp; omega)) c)
        simpa using h
      · rw [if_pos (by simp at e; exact e)] at h
        exact h
/-- What a sorting of places gives. -/
def roseOf (P : Pl → Prop) (n : Nat) (l : List Pl) : Prop := (∀ x ∈ l, P x) ∧ l.Pairwise plLt ∧ l.length ≤ n ∧ (1 ≤ n → 1 ≤ l.length)
theorem SortedPlaces_l0 (P : Pl → Prop) (l : List Pl) (hP : ∀ x ∈ l, P x) (hl : l.length < 1000) : ∀ (suf pre out : List Pl), l = pre ++ suf → roseOf P pre.length out →
    ∃ r, Ev (fun k => spec_SortedPlaces.l0 k out l (l.length : Int) (pre.length : Int)) r ∧ roseOf P l.length r := by
  intro suf
  induction suf with
  | nil =>
    intro pre out h ho
    refine ⟨out, ev_succ ?_, by rw [h]; simpa using ho⟩
    simp only [spec_SortedPlaces.l0, if_neg (ixn h)]
    exact Ev.now _
  | cons a t ih =>
    intro pre out h ho
    obtain ⟨h1, h2, h3, h4⟩ := ix h (by omega)
    have hpl : pre.length < 1000 := by omega
    have hlen := insP_len a out
    obtain ⟨r, e, hr⟩ := ih (pre ++ [a]) (insP a out) h4 ⟨fun x hx => by
        rcases insP_mem a out x hx with e | e
        · rw [e]; exact hP a (by simp [h])
        · exact ho.1 x e, insP_sorted a out ho.2.1, by have := ho.2.2.1; simp; omega, fun _ => hlen.1⟩
    refine ⟨r, ev_succ ?_, hr⟩
    simp only [spec_SortedPlaces.l0, if_pos h1, if_pos (nn _), Int.toNat_natCast, rd_T66, h2]
    refine SortedPlaces_l1 a l (l.length : Int) (pre.length : Int) r out [] (by have := ho.2.2.1; simp; omega) ?_
    rw [h3]; exact e
theorem SortedPlaces_ev (P : Pl → Prop) (l : List Pl) (hP : ∀ x ∈ l, P x) (hl : l.length < 1000) : ∃ r, Ev (fun k => spec_SortedPlaces.f k l) r ∧ roseOf P l.length r :=
  SortedPlaces_l0 P l hP hl l [] [] rfl ⟨fun x hx => (by cases hx), by simp, by simp, fun h => (by simp at h)⟩
def small (p : Pl) : Prop := (-3 ≤ p.f0 ∧ p.f0 ≤ 3) ∧ (-3 ≤ p.f1 ∧ p.f1 ≤ 3)
theorem l4Rose_l0 (b : List Int) (hb : b.length < 1099511627776) : ∀ (n : Nat) (out : List Pl) (i h : Int), 0 ≤ i → (∀ x ∈ out, small x) → out.length + n ≤ 4 → 1 ≤ out.length + n →
    ∃ r i' h', Ev (fun k => spec_l4Rose.l0 k out (n : Int) b i h) (r, i', h') ∧ 0 ≤ i' ∧ roseOf small (out.length + n) r := by
  intro n
  induction n with
  | zero =>
    intro out i h hi ho hl _
    obtain ⟨r, e, hr⟩ := SortedPlaces_ev small out ho (by omega)
    refine ⟨r, i, h, ev_succ ?_, hi, hr⟩
    simp only [spec_l4Rose.l0, if_neg (show ¬ (((0 : Nat) : Int) > 0) by omega)]
    exact Ev.bind e (Ev.now _)
  | succ n ih =>
    intro out i h hi ho hl h1
    obtain ⟨x, y, i1, h1', e1, hi1, hx, hy⟩ := l4DriftDraw_ok b i h hb hi
    obtain ⟨r, i', h', e, hi', hr⟩ := ih (out ++ [⟨x, y⟩]) i1 h1' hi1 (fun z hz => by
      simp at hz; rcases hz with hz | hz
      · exact ho z hz
      · rw [hz]; exact ⟨hx, hy⟩) (by simp; omega) (by simp; omega)
    refine ⟨r, i', h', ev_succ ?_, hi', by simpa [Nat.add_assoc, Nat.add_comm 1 n] using hr⟩
    simp only [spec_l4Rose.l0, if_pos (show (((n + 1 : Nat) : Int) > 0) by omega), e1, Option.bind_some, if_pos (show out.length < 8796093022208 by omega)]
    rwa [show wrap64 (((n + 1 : Nat) : Int) - 1) = (n : Int) by unfold wrap64; omega]
theorem small_gDr2 {p : Pl} (h : small p) : rRest.gDr2 p.f0 p.f1 = true := by
  unfold small at h
  simp only [rRest.gDr2, Bool.and_eq_true, decide_eq_true_eq]; omega
theorem l4Rose_ok (b : List Int) (i h : Int) (hb : b.length < 1099511627776) (hi : 0 ≤ i) : ∃ r i' h', Ev (fun k => spec_l4Rose.f k b i h) (r, i', h') ∧ 0 ≤ i' ∧ (∀ x ∈ r, small x) ∧ pRose r = true := by
  obtain ⟨c, i1, h1, e1, hi1, hc0, hc1⟩ := l1Below_ok b i h 4 hb hi
  obtain ⟨r, i', h', e, hi', hr⟩ := l4Rose_l0 b hb (1 + c).toNat [] i1 h1 hi1 (fun x hx => by cases hx) (by simp; omega) (by simp; omega)
  refine ⟨r, i', h', ?_, hi', hr.1, pRose_of (fun x hx => small_gDr2 (hr.1 x hx)) hr.2.1 (hr.2.2.2 (by simp; omega)) (by have := hr.2.2.1; simp at this; omega)⟩
  simp only [spec_l4Rose.f, e1, Option.bind_some]
  rw [show wrap64 (1 + c) = ((1 + c).toNat : Int) by unfold wrap64; omega]
  exact e
/-- A drawn wind that fits a rose. -/
def fitW (r : List Pl) (w : List Gu) : Prop := ∀ g ∈ w, (⟨g.f1.f0, g.f1.f1⟩ : Pl) ∈ r
theorem l12Fitting_l0 (b : List Int) (r : List Pl) (hr : pRose r = true) (hs : ∀ x ∈ r, small x) (hb : b.length < 1099511627776) : ∀ (n : Nat) (out : List Gu) (t i h : Int), 0 ≤ i → 0 ≤ t → t + 6 * n ≤ 40 → out.length + n ≤ 8 → asc 0 out → (∀ g ∈ out, gOk g = true) → (∀ g ∈ out, g.f0 < t) → fitW r out → (out = [] → t = 0) → (∀ g, out.head? = some g → g.f0 = 0) → 1 ≤ out.length + n →
    ∃ w i' h', Ev (fun k => spec_l12Fitting.l0 k r out t (n : Int) b i h) (w, i', h') ∧ 0 ≤ i' ∧ pWind w = true ∧ fitW r w ∧ (∃ g w', w = g :: w' ∧ g.f0 = 0) := by
  intro n
  induction n with
  | zero =>
    intro out t i h hi h0 ht hl ha hok hlt hf hz hh h1
    refine ⟨out, i, h, ev_succ ?_, hi, ?_, hf, ?_⟩
    · simp only [spec_l12Fitting.l0, if_neg (show ¬ (((0 : Nat) : Int) > 0) by omega)]
      exact Ev.now _
    · exact (pWind_iff out).2 ⟨⟨ha, hok⟩, by omega⟩
    · cases out with
      | nil => simp at h1
      | cons g w' => exact ⟨g, w', rfl, hh g rfl⟩
  | succ n ih =>
    intro out t i h hi h0 ht hl ha hok hlt hf hz hh h1
    have hrl := pRose_len hr
    obtain ⟨c, i1, h1', e1, hi1, hc0, hc1⟩ := l1Below_ok b i h (r.length : Int) hb hi
    obtain ⟨d, i2, h2', e2, hi2, hd0, hd1⟩ := l1Below_ok b i1 h1' 6 hb hi1
    have hcn : c.toNat < r.length := by omega
    have hq : (r.getD c.toNat z66) ∈ r := by
      rw [List.getD_eq_getElem?_getD, List.getElem?_eq_getElem hcn, Option.getD_some]; exact List.getElem_mem _
    generalize hqq : r.getD c.toNat z66 = q at hq
    have hsm := hs q hq
    unfold small at hsm
    have hg : gOk (⟨t, ⟨q.f0, q.f1⟩⟩ : Gu) = true := by
      simp only [gOk, gDr, Bool.and_eq_true, decide_eq_true_eq]; omega
    obtain ⟨w, i', h', e, hi', hw⟩ := ih (out ++ [⟨t, ⟨q.f0, q.f1⟩⟩]) (t + 1 + d) i2 h2' hi2 (by omega) (by omega) (by simp; omega) (asc_snoc out 0 ⟨t, ⟨q.f0, q.f1⟩⟩ ha hlt h0)
      (fun g hg' => by simp at hg'; rcases hg' with e | e
                       · exact hok g e
                       · rw [e]; exact hg)
      (fun g hg' => by simp at hg'; rcases hg' with e | e
                       · have := hlt g e; omega
                       · rw [e]; show t < _; omega)
      (fun g hg' => by simp at hg'; rcases hg' with e | e
                       · exact hf g e
                       · rw [e]; exact hq)
      (fun hn => by simp at hn)
      (fun g hg' => by
        cases out with
        | nil => simp at hg'; rw [← hg']; exact hz rfl
        | cons a o => simp at hg'; exact hh g (by simp [hg']))
      (by simp; omega)
    refine ⟨w, i', h', ev_succ ?_, hi', hw⟩
    simp only [spec_l12Fitting.l0, if_pos (show (((n + 1 : Nat) : Int) > 0) by omega), e1, e2, Option.bind_some, if_pos hc0, if_pos (show c < (r.length : Int) by omega), if_pos (show out.length < 5864062014805 by omega), rd_T66, hqq]
    rw [show wrap64 (((n + 1 : Nat) : Int) - 1) = (n : Int) by unfold wrap64; omega, show wrap64 (t + 1) = t + 1 by unfold wrap64; omega, show wrap64 (t + 1 + d) = t + 1 + d by unfold wrap64; omega]
    exact e
theorem l12Fitting_ok (b : List Int) (i h : Int) (r : List Pl) (hr : pRose r = true) (hs : ∀ x ∈ r, small x) (hb : b.length < 1099511627776) (hi : 0 ≤ i) : ∃ w i' h', Ev (fun k => spec_l12Fitting.f k b i h r) (w, i', h') ∧ 0 ≤ i' ∧ pWind w = true ∧ fitW r w ∧ (∃ g w', w = g :: w' ∧ g.f0 = 0) := by
  obtain ⟨c, i1, h1, e1, hi1, hc0, hc1⟩ := l1Below_ok b i h 6 hb hi
  obtain ⟨w, i', h', e, hi', hw⟩ := l12Fitting_l0 b r hr hs hb (1 + c).toNat [] 0 i1 h1 hi1 (by omega) (by omega) (by simp; omega) trivial (fun g hg => by cases hg) (fun g hg => by cases hg) (fun g hg => by cases hg) (fun _ => rfl) (fun g hg => by cases hg) (by simp; omega)
  refine ⟨w, i', h', ?_, hi', hw⟩
  simp only [spec_l12Fitting.f, e1, Option.bind_some]
  rw [show wrap64 (1 + c) = ((1 + c).toNat : Int) by unfold wrap64; omega]
  exact e
theorem DrawFitting_ok (b : List Int) (hb : b.length < 1099511627776) : ∃ r w, Ev (fun k => spec_DrawFitting.f k b) (r, w) ∧ (∀ x ∈ r, small x) ∧ pRose r = true ∧ pWind w = true ∧ fitW r w ∧ (∃ g w', w = g :: w' ∧ g.f0 = 0) := by
  obtain ⟨h0, e0⟩ := l1New_ev b hb
  obtain ⟨r, i1, h1, e1, hi1, hs, hr⟩ := l4Rose_ok b 0 h0 hb (by omega)
  obtain ⟨w, i2, h2, e2, hi2, hw⟩ := l12Fitting_ok b i1 h1 r hr hs hb hi1
  refine ⟨r, w, ?_, hs, hr, hw⟩
  unfold spec_DrawFitting.f
  refine Ev.bind e0 ?_
  refine Ev.bind e1 ?_
  refine Ev.bind e2 ?_
  exact Ev.now _
theorem boxGo_ok : ∀ (l : List Pl) (a b c d : Int), (∀ x ∈ l, small x) → (-3 ≤ a ∧ a ≤ 3 ∧ -3 ≤ b ∧ b ≤ 3 ∧ -3 ≤ c ∧ c ≤ 3 ∧ -3 ≤ d ∧ d ≤ 3) →
    ∃ a' b' c' d', boxGo l a b c d = (a', b', c', d', true) ∧ (-3 ≤ a' ∧ a' ≤ a ∧ -3 ≤ b' ∧ b' ≤ b ∧ c ≤ c' ∧ c' ≤ 3 ∧ d ≤ d' ∧ d' ≤ 3) ∧ (∀ x ∈ l, a' ≤ x.f0 ∧ x.f0 ≤ c' ∧ b' ≤ x.f1 ∧ x.f1 ≤ d') ∧
      (a' = a ∨ ∃ x ∈ l, x.f0 = a') ∧ (b' = b ∨ ∃ x ∈ l, x.f1 = b') ∧ (c' = c ∨ ∃ x ∈ l, x.f0 = c') ∧ (d' = d ∨ ∃ x ∈ l, x.f1 = d')
  | [], a, b, c, d, _, h => ⟨a, b, c, d, rfl, by omega, fun x hx => (by cases hx), .inl rfl, .inl rfl, .inl rfl, .inl rfl⟩
  | p :: t, a, b, c, d, hs, h => by
    have hp := hs p (by simp)
    unfold small at hp
    have hpl : pPlace p.f0 p.f1 = true := by
      simp only [pPlace, Bool.and_eq_true, decide_eq_true_eq]; omega
    obtain ⟨a', b', c', d', e, h1, h2, h3, h4, h5, h6⟩ := boxGo_ok t (min a p.f0) (min b p.f1) (max c p.f0) (max d p.f1) (fun x hx => hs x (by simp [hx])) (by omega)
    refine ⟨a', b', c', d', by rw [boxGo, if_pos hpl]; exact e, by clear h3 h4 h5 h6; omega, fun x hx => ?_, ?_, ?_, ?_, ?_⟩
    · clear h3 h4 h5 h6
      cases hx with
      | head => omega
      | tail _ hx => exact h2 x hx
    · rcases h3 with h | ⟨x, hx, h⟩
      · by_cases q : a ≤ p.f0
        · left; rw [h, Int.min_eq_left q]
        · right; exact ⟨p, by simp, by rw [h, Int.min_eq_right (Int.le_of_lt (Int.not_le.1 q))]⟩
      · right; exact ⟨x, by simp [hx], h⟩
    · rcases h4 with h | ⟨x, hx, h⟩
      · by_cases q : b ≤ p.f1
        · left; rw [h, Int.min_eq_left q]
        · right; exact ⟨p, by simp, by rw [h, Int.min_eq_right (Int.le_of_lt (Int.not_le.1 q))]⟩
      · right; exact ⟨x, by simp [hx], h⟩
    · rcases h5 with h | ⟨x, hx, h⟩
      · by_cases q : p.f0 ≤ c
        · left; rw [h, Int.max_eq_left q]
        · right; exact ⟨p, by simp, by rw [h, Int.max_eq_right (Int.le_of_lt (Int.not_le.1 q))]⟩
      · right; exact ⟨x, by simp [hx], h⟩
    · rcases h6 with h | ⟨x, hx, h⟩
      · by_cases q : p.f1 ≤ d
        · left; rw [h, Int.max_eq_left q]
        · right; exact ⟨p, by simp, by rw [h, Int.max_eq_right (Int.le_of_lt (Int.not_le.1 q))]⟩
      · right; exact ⟨x, by simp [hx], h⟩
theorem pBox_ok {r : List Pl} (hs : ∀ x ∈ r, small x) (h1 : 1 ≤ r.length) : ∃ a b c d, pBox r = (a, b, c, d, true) ∧ (-3 ≤ a ∧ a ≤ 3 ∧ -3 ≤ b ∧ b ≤ 3 ∧ -3 ≤ c ∧ c ≤ 3 ∧ -3 ≤ d ∧ d ≤ 3) ∧ (∀ x ∈ r, a ≤ x.f0 ∧ x.f0 ≤ c ∧ b ≤ x.f1 ∧ x.f1 ≤ d) ∧
      (∃ x ∈ r, x.f0 = a) ∧ (∃ x ∈ r, x.f1 = b) ∧ (∃ x ∈ r, x.f0 = c) ∧ (∃ x ∈ r, x.f1 = d) := by
  cases r with
  | nil => simp at h1
  | cons p t =>
    have hp := hs p (by simp)
    unfold small at hp
    obtain ⟨a, b, c, d, e, h1, h2, h3, h4, h5, h6⟩ := boxGo_ok (p :: t) p.f0 p.f1 p.f0 p.f1 hs (by omega)
    refine ⟨a, b, c, d, e, by omega, h2, ?_, ?_, ?_, ?_⟩
    · exact h3.elim (fun h => ⟨p, by simp, h.symm⟩) id
    · exact h4.elim (fun h => ⟨p, by simp, h.symm⟩) id
    · exact h5.elim (fun h => ⟨p, by simp, h.symm⟩) id
    · exact h6.elim (fun h => ⟨p, by simp, h.symm⟩) id
theorem pAt_fit {r : List Pl} : ∀ (w : List Gu) (d : Int × Int) (t : Int), fitW r w → (⟨d.1, d.2⟩ : Pl) ∈ r → (⟨(pAt d w t).1, (pAt d w t).2⟩ : Pl) ∈ r
  | [], d, t, _, h => h
  | g :: w, d, t, hf, h => by
    rw [pAt, List.foldl_cons]
    refine pAt_fit w _ t (fun x hx => hf x (by simp [hx])) ?_
    split
    · exact hf g (by simp)
    · exact h
theorem pAt_first {r : List Pl} {w : List Gu} (hf : fitW r w) (hw : ∃ g w', w = g :: w' ∧ g.f0 = 0) (t : Int) (ht : 0 ≤ t) : (⟨(pAt (0, 0) w t).1, (pAt (0, 0) w t).2⟩ : Pl) ∈ r := by
  obtain ⟨g, w', rfl, hg⟩ := hw
  rw [pAt, List.foldl_cons, if_pos (by omega)]
  exact pAt_fit w' _ t (fun x hx => hf x (by simp [hx])) (hf g (by simp))
theorem inRose_of {r : List Pl} {d : Int × Int} (h : (⟨d.1, d.2⟩ : Pl) ∈ r) : inRose r d = true := by
  rw [inRose, List.any_eq_true]
  exact ⟨_, h, by simp⟩
theorem fitsN_ok {r : List Pl} {w : List Gu} (hf : fitW r w) (hw : ∃ g w', w = g :: w' ∧ g.f0 = 0) : ∀ (n : Nat) (t : Int), 0 ≤ t → fitsN w r n t = true
  | 0, _, _ => rfl
  | n + 1, t, h => by
    rw [fitsN, inRose_of (pAt_first hf hw t h), Bool.true_and]
    exact fitsN_ok hf hw n (t + 1) (by omega)
theorem pOverN_box {r : List Pl} {w : List Gu} (hf : fitW r w) (hw : ∃ g w', w = g :: w' ∧ g.f0 = 0) {a b c d : Int} (hB : -3 ≤ a ∧ a ≤ 3 ∧ -3 ≤ b ∧ b ≤ 3 ∧ -3 ≤ c ∧ c ≤ 3 ∧ -3 ≤ d ∧ d ≤ 3)
    (hb : ∀ x ∈ r, a ≤ x.f0 ∧ x.f0 ≤ c ∧ b ≤ x.f1 ∧ x.f1 ≤ d) : ∀ (n : Nat) (t : Int) (m : Int) (s : Int × Int), 0 ≤ t → 0 ≤ m → m + n ≤ 200 → (m * a ≤ s.1 ∧ s.1 ≤ m * c ∧ m * b ≤ s.2 ∧ s.2 ≤ m * d) →
    ((m + n) * a ≤ (pOverN w n t s).1 ∧ (pOverN w n t s).1 ≤ (m + n) * c ∧ (m + n) * b ≤ (pOverN w n t s).2 ∧ (pOverN w n t s).2 ≤ (m + n) * d)
  | 0, t, m, s, _, _, _, h => by simpa [pOverN] using h
  | n + 1, t, m, s, ht, hm, hn, h => by
    have hx := hb _ (pAt_first hf hw t ht)
    simp only at hx
    have hma : m * (-3) ≤ m * a := Int.mul_le_mul_of_nonneg_left (by omega) hm
    have hmc : m * c ≤ m * 3 := Int.mul_le_mul_of_nonneg_left (by omega) hm
    have hmb : m * (-3) ≤ m * b := Int.mul_le_mul_of_nonneg_left (by omega) hm
    have hmd : m * d ≤ m * 3 := Int.mul_le_mul_of_nonneg_left (by omega) hm
    have h1 : wrap64 (s.1 + (pAt (0, 0) w t).1) = s.1 + (pAt (0, 0) w t).1 := by unfold wrap64; omega
    have h2 : wrap64 (s.2 + (pAt (0, 0) w t).2) = s.2 + (pAt (0, 0) w t).2 := by unfold wrap64; omega
    have := pOverN_box hf hw hB hb n (t + 1) (m + 1) (s.1 + (pAt (0, 0) w t).1, s.2 + (pAt (0, 0) w t).2) (by omega) (by omega) (by omega) (by
      simp only [Int.add_mul, Int.one_mul]; omega)
    rw [pOverN, h1, h2]
    rwa [show m + ((n + 1 : Nat) : Int) = m + 1 + (n : Int) by omega]
def sKey (h : Int) (p : Int × Int) : Int := (pTurn4 (wrap64 (-h)) p).1
theorem wFold_ok (h : Int) (r : List Pl) : ∀ (l : List Pl) (b : Int × Int), (∀ x ∈ l, x ∈ r) → (⟨b.1, b.2⟩ : Pl) ∈ r →
    (⟨(l.foldl (wStep h) b).1, (l.foldl (wStep h) b).2⟩ : Pl) ∈ r ∧ sKey h b ≤ sKey h (l.foldl (wStep h) b) ∧ (∀ x ∈ l, sKey h (x.f0, x.f1) ≤ sKey h (l.foldl (wStep h) b))
  | [], b, _, hb => ⟨hb, Int.le_refl _, fun x hx => by cases hx⟩
  | p :: t, b, hl, hb => by
    have hp : (⟨p.f0, p.f1⟩ : Pl) ∈ r := hl p (by simp)
    rw [List.foldl_cons]
    by_cases c : sKey h (p.f0, p.f1) > sKey h b
    · rw [show wStep h b p = (p.f0, p.f1) from if_pos c]
      obtain ⟨h1, h2, h3⟩ := wFold_ok h r t (p.f0, p.f1) (fun x hx => hl x (by simp [hx])) hp
      refine ⟨h1, by omega, fun x hx => ?_⟩
      cases hx with
      | head => exact h2
      | tail _ hx => exact h3 x hx
    · rw [show wStep h b p = b from if_neg c]
      obtain ⟨h1, h2, h3⟩ := wFold_ok h r t b (fun x hx => hl x (by simp [hx])) hb
      refine ⟨h1, h2, fun x hx => ?_⟩
      cases hx with
      | head => omega
      | tail _ hx => exact h3 x hx
theorem pWorstL_ok (h : Int) {r : List Pl} (h1 : 1 ≤ r.length) : (⟨(pWorstL h r).1, (pWorstL h r).2⟩ : Pl) ∈ r ∧ ∀ x ∈ r, sKey h (x.f0, x.f1) ≤ sKey h (pWorstL h r) := by
  cases r with
  | nil => simp at h1
  | cons p t =>
    obtain ⟨g1, g2, g3⟩ := wFold_ok h (p :: t) t (p.f0, p.f1) (fun x hx => by simp [hx]) (by simp)
    refine ⟨g1, fun x hx => ?_⟩
    cases hx with
    | head => exact g2
    | tail _ hx => exact g3 x hx
theorem sKey_0 (x y : Int) : sKey 0 (x, y) = x := by
  unfold sKey pTurn4; rw [show wrap64 (-0) = 0 by unfold wrap64; omega, show ((0 : Int) % 4).toNat = 0 from rfl]; rfl
theorem sKey_1 (x y : Int) (hx : -3 ≤ x ∧ x ≤ 3) (hy : -3 ≤ y ∧ y ≤ 3) : sKey 1 (x, y) = y := by
  unfold sKey pTurn4; rw [show wrap64 (-1) = -1 by unfold wrap64; omega, show ((-1 : Int) % 4).toNat = 3 from rfl]; simp only [rotN]; unfold wrap64; omega
theorem sKey_2 (x y : Int) (hx : -3 ≤ x ∧ x ≤ 3) : sKey 2 (x, y) = -x := by
  unfold sKey pTurn4; rw [show wrap64 (-2) = -2 by unfold wrap64; omega, show ((-2 : Int) % 4).toNat = 2 from rfl]; simp only [rotN]; unfold wrap64; omega
theorem sKey_3 (x y : Int) (hy : -3 ≤ y ∧ y ≤ 3) : sKey 3 (x, y) = -y := by
  unfold sKey pTurn4; rw [show wrap64 (-3) = -3 by unfold wrap64; omega, show ((-3 : Int) % 4).toNat = 1 from rfl]; simp only [rotN]; unfold wrap64; omega
theorem FnRoseSides : laws_FnRoseSides.Pure := by
  intro bs _ hbs _
  refine Ev.rounds ?_
  simp only [laws_FnRoseSides.f, laws_big_eq, Option.bind_some, decide_eq_true_eq]
  refine ev_ite (fun _ => Ev.now _) (fun h => ?_)
  have hbl : bs.length < 1099511627776 := by omega
  obtain ⟨r, w, e, hs, hr, hw, hf, hh⟩ := DrawFitting_ok bs hbl
  have hrl := pRose_len hr
  refine Ev.bind e ?_
  have hn0 : 0 ≤ (bs.length : Int) % 33 := Int.emod_nonneg _ (by omega)
  have hn1 : (bs.length : Int) % 33 ≤ 32 := by omega
  generalize (bs.length : Int) % 33 = n at hn0 hn1
  obtain ⟨a, b, c, d, eb, hB, hb, ⟨pa, ha, ea⟩, ⟨pb, hb', eb'⟩, ⟨pc, hc, ec⟩, ⟨pd, hd, ed⟩⟩ := pBox_ok hs hrl.1
  refine Ev.bind (impl_RoseBox_ev r n (by omega)) ?_
  have ht3 : ∀ x : Int, -3 ≤ x → x ≤ 3 → -120 ≤ n * x ∧ n * x ≤ 120 := by
    intro x hx1 hx2
    have g1 : n * (-3) ≤ n * x := Int.mul_le_mul_of_nonneg_left (by omega) hn0
    have g2 : n * x ≤ n * 3 := Int.mul_le_mul_of_nonneg_left (by omega) hn0
    omega
  have wa : wrap64 (n * a) = n * a := by have := ht3 a (by omega) (by omega); unfold wrap64; omega
  have wb : wrap64 (n * b) = n * b := by have := ht3 b (by omega) (by omega); unfold wrap64; omega
  have wc : wrap64 (n * c) = n * c := by have := ht3 c (by omega) (by omega); unfold wrap64; omega
  have wd : wrap64 (n * d) = n * d := by have := ht3 d (by omega) (by omega); unfold wrap64; omega
  have hrb : pRoseBox r n = (n * a, n * b, n * c, n * d, true) := by
    rw [pRoseBox, if_pos hr, if_pos ⟨by omega, by omega⟩, eb]; simp only [wa, wb, wc, wd]
  rw [hrb]
  simp only
  have side : ∀ (s : Int), 0 ≤ s → s < 4 → Ev (fun k => laws_FnRoseSides.l0 k r n (wrap64 (s + 1)) (n * a) (n * b) (n * c) (n * d)) true → Ev (fun k => laws_FnRoseSides.l0 k r n s (n * a) (n * b) (n * c) (n * d)) true := by
    intro s h0 h4 next
    obtain ⟨hm, hk⟩ := pWorstL_ok s hrl.1
    have hpw : pWorst r s = pWorstL s r := by
      rw [pWorst, if_pos hr, if_pos (show pHead s = true by simp only [pHead, Bool.and_eq_true, decide_eq_true_eq]; omega)]
    refine ev_succ ?_
    simp only [laws_FnRoseSides.l0, if_pos h4]
    refine Ev.bind (impl_WorstDrift_ev r s (by omega)) ?_
    rw [hpw]
    generalize hx : (pWorstL s r).1 = x at hm
    generalize hy : (pWorstL s r).2 = y at hm
    have hxy : pWorstL s r = (x, y) := by rw [← hx, ← hy]
    rw [hxy] at hk
    have hsm := hs _ hm
    unfold small at hsm
    simp only at hsm
    have hbx := hb _ hm
    simp only at hbx
    have hfw : fitW r [(⟨0, ⟨x, y⟩⟩ : Gu)] := fun g hg => by simp at hg; rw [hg]; exact hm
    have hfh : ∃ g w', [(⟨0, ⟨x, y⟩⟩ : Gu)] = g :: w' ∧ g.f0 = 0 := ⟨_, _, rfl, rfl⟩
    have hww : pWind [(⟨0, ⟨x, y⟩⟩ : Gu)] = true := by
      simp [pWind, wAll, wRest, gOk, gDr]; omega
    simp only [Option.bind_some]
    refine Ev.bind (impl_DriftOver_ev [(⟨0, ⟨x, y⟩⟩ : Gu)] 0 n (by simp)) ?_
    have hov := pOverN_box (r := [(⟨x, y⟩ : Pl)]) (a := x) (b := y) (c := x) (d := y) (w := [(⟨0, ⟨x, y⟩⟩ : Gu)]) (fun g hg => by simp at hg; rw [hg]; simp) hfh (by omega) (fun z hz => by simp at hz; rw [hz]; simp) n.toNat 0 0 (0, 0) (by omega) (by omega) (by omega) (by simp)
    rw [show (0 : Int) + (n.toNat : Int) = n by omega] at hov
    have hoo : pOver [(⟨0, ⟨x, y⟩⟩ : Gu)] 0 n = (n * x, n * y, true) := by
      rw [pOver, if_pos ⟨hww, by omega, by omega, by omega⟩, show (n - 0).toNat = n.toNat by omega]
      rw [Int.le_antisymm hov.2.1 hov.1, Int.le_antisymm hov.2.2.2 hov.2.2.1]
    rw [hoo]
    have hfit : pFits [(⟨0, ⟨x, y⟩⟩ : Gu)] r n = true := by
      rw [pFits, if_pos ⟨hww, hr, by omega⟩]; exact fitsN_ok hfw hfh _ 0 (by omega)
    simp only [Option.bind_some, List.length_cons, List.length_nil, if_pos h0, if_pos (show s < ((0 + 1 + 1 + 1 + 1 : Nat) : Int) by omega), if_true]
    refine Ev.bind (impl_FitsRose_ev _ r n (by simp) (by omega)) ?_
    rw [hfit]
    simp only [if_true]
    have hval : rd [n * c, n * d, n * a, n * b] s = rd [n * x, n * y, n * x, n * y] s := by
      have ka := hk _ ha
      have kb := hk _ hb'
      have kc := hk _ hc
      have kd := hk _ hd
      have sa := hs _ ha; have sb := hs _ hb'; have sc := hs _ hc; have sd := hs _ hd
      unfold small at sa sb sc sd
      rcases (show s = 0 ∨ s = 1 ∨ s = 2 ∨ s = 3 by omega) with h | h | h | h
      · subst h
        simp only [sKey_0] at kc
        show n * c = n * x
        rw [show c = x by omega]
      · subst h
        rw [sKey_1 _ _ sd.1 sd.2, sKey_1 _ _ hsm.1 hsm.2] at kd
        show n * d = n * y
        rw [show d = y by omega]
      · subst h
        rw [sKey_2 _ _ sa.1, sKey_2 _ _ hsm.1] at ka
        show n * a = n * x
        rw [show a = x by omega]
      · subst h
        rw [sKey_3 _ _ sb.2, sKey_3 _ _ hsm.2] at kb
        show n * b = n * y
        rw [show b = y by omega]
    simp only [hval, if_true]
    exact next
  refine side 0 (by omega) (by omega) ?_
  rw [show wrap64 ((0 : Int) + 1) = 1 by unfold wrap64; omega]
  refine side 1 (by omega) (by omega) ?_
  rw [show wrap64 ((1 : Int) + 1) = 2 by unfold wrap64; omega]
  refine side 2 (by omega) (by omega) ?_
  rw [show wrap64 ((2 : Int) + 1) = 3 by unfold wrap64; omega]
  refine side 3 (by omega) (by omega) ?_
  rw [show wrap64 ((3 : Int) + 1) = 4 by unfold wrap64; omega]
  refine ev_succ ?_
  simp only [laws_FnRoseSides.l0, if_neg (show ¬ (4 : Int) < 4 by omega)]
  exact Ev.now _

end Go.Proofs.Ytkljnmojnkiafaa.Pure
