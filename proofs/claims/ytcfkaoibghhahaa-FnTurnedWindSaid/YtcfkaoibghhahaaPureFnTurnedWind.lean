/- The law FnTurnedWind comes to true for every input: a wind that is turned drifts to the turned places. (P2, P4) No condition beside the statement's own. -/
import Derived.Test.YtcfkaoibghhahaaStFnTurnedWind
namespace Go.Proofs.Ytcfkaoibghhahaa.Pure
open Go Go.RowKit Go.Proofs.Ytcfkaoibghhahaa.MFnTurnedWind Go.Proofs.YtcfkaoibghhahaaW.PrintWords Go.Proofs.YtcfkaoibghhahaaW.PrintLast Go.Proofs.YtcfkaoibghhahaaW.PrintMore
set_option linter.unusedVariables false
set_option linter.unusedSimpArgs false

theorem ev_succ {α : Type} {g : Nat → Option α} {r : α} (h : Ev (fun k => g (k + 1)) r) : Ev g r := Ev.step (fun _ => rfl) h
theorem ev_ite {α : Type} {c : Prop} [Decidable c] {f g : Nat → Option α} {r : α} (h : c → Ev f r) (h' : ¬ c → Ev g r) : Ev (fun k => if c then f k else g k) r := by
  by_cases hc : c
  · simp only [if_pos hc]; exact h hc
  · simp only [if_neg hc]; exact h' hc
theorem ix {α : Type} {l pre t : List α} {a : α} (h : l = pre ++ a :: t) (hl : l.length < 4611686018427387904) :
    (pre.length : Int) < (l.length : Int) ∧ (∀ d, l.getD pre.length d = a) ∧ wrap64 ((pre.length : Int) + 1) = ((pre ++ [a]).length : Int) ∧ l = (pre ++ [a]) ++ t := by
  subst h
  simp only [List.length_append, List.length_cons, List.length_nil] at *
  refine ⟨by omega, fun d => by simp [List.getD], by unfold wrap64; omega, by simp⟩
theorem ixn {α : Type} {l pre : List α} (h : l = pre ++ []) : ¬ (pre.length : Int) < (l.length : Int) := by
  subst h; simp
theorem nn (n : Nat) : (0 : Int) ≤ (n : Int) := Int.natCast_nonneg n
theorem w64 {n : Int} (h0 : -9223372036854775808 ≤ n) (h1 : n < 9223372036854775808) : wrap64 n = n := by unfold wrap64; omega
theorem mn_min (a b : Int) : mn a b = min a b := by unfold mn; omega
theorem mx_max (a b : Int) : mx a b = max a b := by unfold mx; omega
theorem set_app {α : Type} (pre t : List α) (a b : α) : (pre ++ a :: t).set pre.length b = pre ++ b :: t := by simp
theorem app1 {α : Type} (pre : List α) (a : α) (t : List α) : pre ++ a :: t = (pre ++ [a]) ++ t := by simp

/-- The numbers from c on, n of them. -/
def upto : Nat → Int → List Int
  | 0, _ => []
  | n + 1, c => c :: upto n (c + 1)
theorem upto_length : ∀ n c, (upto n c).length = n
  | 0, _ => rfl
  | n + 1, c => by simp [upto, upto_length n]

theorem impl_isWithin_eq (a b c : Int) : impl_isWithin.f a b c = some (decide (b ≤ a) && decide (a ≤ c)) := by
  unfold impl_isWithin.f; split <;> simp <;> omega
theorem and255 (x : Int) : 0 ≤ Go.bits .and .i64 x 255 ∧ Go.bits .and .i64 x 255 ≤ 255 := by
  have h : ((BitVec.ofInt 64 x) &&& (BitVec.ofInt 64 255)).toNat ≤ 255 := by
    rw [BitVec.toNat_and]
    refine Nat.le_trans Nat.and_le_right ?_
    decide
  have e : Go.bits .and .i64 x 255 = IntKind.i64.wrap (((BitVec.ofInt 64 x) &&& (BitVec.ofInt 64 255)).toNat : Int) := by
    rfl
  rw [e]
  generalize ((BitVec.ofInt 64 x) &&& (BitVec.ofInt 64 255)).toNat = m at h
  rw [IntKind.wrap_i64]; omega
theorem l1Byte_ok (b : List Int) (i h : Int) (hb : b.length < 1099511627776) (hi : 0 ≤ i) : ∃ r i' h', spec_l1Byte.f b i h = some (r, i', h') ∧ 0 ≤ i' ∧ 0 ≤ r ∧ r ≤ 255 := by
  unfold spec_l1Byte.f
  split
  · exact ⟨_, _, _, rfl, by unfold wrap64; omega, and255 _⟩
  · exact ⟨_, _, _, rfl, hi, and255 _⟩
theorem l1Below_ok (b : List Int) (i h n : Int) (hb : b.length < 1099511627776) (hi : 0 ≤ i) : ∃ r i' h', spec_l1Below.f b i h n = some (r, i', h') ∧ 0 ≤ i' ∧ 0 ≤ r ∧ (r < n ∨ n ≤ 0 ∧ r = 0) := by
  unfold spec_l1Below.f
  split
  · exact ⟨_, _, _, rfl, hi, by omega, by omega⟩
  · rename_i hn
    split
    · obtain ⟨r, i', h', e, hi', h0, h1⟩ := l1Byte_ok b i h hb hi
      rw [e]; simp only [Option.bind_some]
      rw [if_neg (by omega)]
      exact ⟨_, _, _, rfl, hi', Int.tmod_nonneg _ h0, .inl (Int.tmod_lt_of_pos _ (by omega))⟩
    · obtain ⟨r, i1, h1, e, hi1, h0, h255⟩ := l1Byte_ok b i h hb hi
      rw [e]; simp only [Option.bind_some]
      obtain ⟨r2, i2, h2, e2, hi2, h02, h2552⟩ := l1Byte_ok b i1 h1 hb hi1
      rw [e2]; simp only [Option.bind_some]
      obtain ⟨r3, i3, h3, e3, hi3, h03, h2553⟩ := l1Byte_ok b i2 h2 hb hi2
      rw [e3]; simp only [Option.bind_some]
      rw [if_neg (by omega)]
      refine ⟨_, _, _, rfl, hi3, Int.tmod_nonneg _ ?_, .inl (Int.tmod_lt_of_pos _ (by omega))⟩
      unfold wrap64; omega
theorem l1Once_ok (b : List Int) (i h n : Int) (hb : b.length < 1099511627776) (hi : 0 ≤ i) : ∃ r i' h', spec_l1Once.f b i h n = some (r, i', h') ∧ 0 ≤ i' := by
  obtain ⟨r, i', h', e, hi', h0, h1⟩ := l1Below_ok b i h n hb hi
  unfold spec_l1Once.f
  rw [e]; simp only [Option.bind_some]
  exact ⟨_, _, _, rfl, hi'⟩
theorem l1Int_ok (b : List Int) (i h : Int) (l : List Int) (hb : b.length < 1099511627776) (hi : 0 ≤ i) (hl : l ≠ []) : ∃ r i' h', spec_l1Int.f b i h l = some (r, i', h') ∧ 0 ≤ i' ∧ r ∈ l := by
  obtain ⟨r, i', h', e, hi', h0, h1⟩ := l1Below_ok b i h (l.length : Int) hb hi
  have hp : 0 < l.length := List.length_pos_iff.2 hl
  unfold spec_l1Int.f
  rw [e]; simp only [Option.bind_some]
  have hlt : r < (l.length : Int) := by omega
  rw [if_pos h0, if_pos hlt]
  refine ⟨_, _, _, rfl, hi', ?_⟩
  have h2 : r.toNat < l.length := by omega
  simp only [rd, List.getD_eq_getElem?_getD, List.getElem?_eq_getElem h2, Option.getD_some]
  exact List.getElem_mem _
theorem l1Odd_ok (b : List Int) (i h : Int) (hb : b.length < 1099511627776) (hi : 0 ≤ i) : ∃ r i' h', spec_l1Odd.f b i h = some (r, i', h') ∧ 0 ≤ i' := by
  unfold spec_l1Odd.f
  obtain ⟨r, i', h', e, hi', _⟩ := l1Int_ok b i h [(-1), 0, 1, 2, 3, 7, 8, 9, 15, 16, 17, 63, 64, 65, 999, 1000, 4096, 4097, 9223372036854775807, (-9223372036854775808)] hb hi (by simp)
  rw [e]; simp only [Option.bind_some]
  exact ⟨_, _, _, rfl, hi'⟩
theorem l1New_l0 (b : List Int) (hb : b.length < 1099511627776) : ∀ (d i : Nat) (h : Int), i + d = b.length → ∃ h', Ev (fun k => spec_l1New.l0 k b h (i : Int)) (b, 0, h') := by
  intro d
  induction d with
  | zero =>
    intro i h hd
    refine ⟨h, ev_succ ?_⟩
    simp only [spec_l1New.l0, if_neg (show ¬ ((i : Int) < (b.length : Int)) by omega)]
    exact Ev.now _
  | succ d ih =>
    intro i h hd
    by_cases h4 : (i : Int) < 4000
    · obtain ⟨h', e⟩ := ih (i + 1) _ (by omega)
      refine ⟨h', ev_succ ?_⟩
      simp only [spec_l1New.l0, if_pos (show ((i : Int) < (b.length : Int)) by omega), if_pos h4, if_pos (nn _)]
      rw [show wrap64 ((i : Int) + 1) = ((i + 1 : Nat) : Int) by unfold wrap64; omega]
      exact e
    · refine ⟨h, ev_succ ?_⟩
      simp only [spec_l1New.l0, if_pos (show ((i : Int) < (b.length : Int)) by omega), if_neg h4]
      exact Ev.now _
theorem l1New_ev (b : List Int) (hb : b.length < 1099511627776) : ∃ h', Ev (fun k => spec_l1New.f k b) (b, 0, h') := l1New_l0 b hb b.length 0 _ (by omega)
theorem laws_big_eq (b : List Int) : laws_big.f b = some (decide ((b.length : Int) > 4096)) := rfl
abbrev Gu := S69
abbrev Pl := S25
theorem ix2 {α : Type} {l pre t : List α} {p a : α} (h : l = (pre ++ [p]) ++ a :: t) (hl : l.length < 4611686018427387904) :
    (((pre ++ [p]).length : Int)) > 0 ∧ wrap64 (((pre ++ [p]).length : Int) - 1) = (pre.length : Int) ∧ (∀ d, l.getD pre.length d = p) ∧ (pre.length : Int) < (l.length : Int) := by
  subst h
  simp only [List.length_append, List.length_cons, List.length_nil] at *
  refine ⟨by omega, by unfold wrap64; omega, fun d => by simp [List.getD], by omega⟩
theorem ev_eq {α : Type} {f g : Nat → Option α} {r : α} (h : f = g) (k : Ev g r) : Ev f r := h ▸ k
def drB' (a b : Int) : Bool := (decide (-8 ≤ a) && decide (a ≤ 8)) && (decide (-8 ≤ b) && decide (b ≤ 8))
theorem impl_isDrift_eq (a b : Int) : impl_isDrift.f a b = some (drB' a b) := by
  simp only [impl_isDrift.f, impl_isWithin_eq, Option.bind_some, drB']
  cases (decide (-8 ≤ a) && decide (a ≤ 8)) <;> simp
def gDr (a b : Int) : Bool := (decide (-8 ≤ a) && decide (a ≤ 8)) && (decide (-8 ≤ b) && decide (b ≤ 8))
def gOk (g : Gu) : Bool := (decide (0 ≤ g.f0) && decide (g.f0 ≤ 64)) && gDr g.f1.f0 g.f1.f1
/-- The gusts behind one. -/
def wRest : Gu → List Gu → Bool
  | _, [] => true
  | p, g :: t => gOk g && (decide (p.f0 < g.f0) && wRest g t)
def wAll : List Gu → Bool
  | [] => true
  | g :: t => gOk g && wRest g t
/-- IsWind -/
def pWind (l : List Gu) : Bool := wAll l && decide ((l.length : Int) ≤ 8)
theorem pWind_len {l : List Gu} (h : pWind l = true) : l.length ≤ 8 := by
  simp only [pWind, Bool.and_eq_true, decide_eq_true_eq] at h; omega
/-- The drift at a tick. -/
def pAt (d : Int × Int) (w : List Gu) (t : Int) : Int × Int := w.foldl (fun d g => if g.f0 ≤ t then (g.f1.f0, g.f1.f1) else d) d
theorem impl_IsWind_l0 (l : List Gu) (hl : l.length < 1099511627776) : ∀ (suf pre : List Gu) (p : Gu), l = (pre ++ [p]) ++ suf →
    Ev (fun k => impl_IsWind.l0 k l l (l.length : Int) ((pre ++ [p]).length : Int)) (wRest p suf && decide ((l.length : Int) ≤ 8)) := by
  intro suf
  induction suf with
  | nil =>
    intro pre p h
    refine ev_succ ?_
    simp only [impl_IsWind.l0, if_neg (ixn h), wRest, Bool.true_and]
    exact Ev.now _
  | cons a t ih =>
    intro pre p h
    obtain ⟨h1, h2, h3, h4⟩ := ix h (by omega)
    obtain ⟨h5, h6, h7, h8⟩ := ix2 h (by omega)
    refine ev_succ ?_
    simp only [impl_IsWind.l0, if_pos h1, if_pos (nn _), Int.toNat_natCast, rd_T69, h2, h3, h6, h7, impl_isWithin_eq, impl_isDrift_eq, Option.bind_some, if_pos h5, if_pos h8]
    rw [wRest, gOk]
    change Ev (fun k => if (decide (0 ≤ a.f0) && decide (a.f0 ≤ 64)) = true then if gDr a.f1.f0 a.f1.f1 = true then _ else _ else _) _
    refine ev_ite (fun c1 => ?_) (fun c1 => ?_)
    · rw [c1, Bool.true_and]
      refine ev_ite (fun c2 => ?_) (fun c2 => ?_)
      · rw [c2, Bool.true_and]
        refine ev_ite (fun c3 => ?_) (fun c3 => ?_)
        · rw [decide_eq_false (by omega), Bool.false_and, Bool.false_and]; exact Ev.now _
        · rw [decide_eq_true (by omega), Bool.true_and]; exact ih (pre ++ [p]) a h4
      · rw [Bool.eq_false_iff.2 c2, Bool.false_and, Bool.false_and]; exact Ev.now _
    · rw [Bool.eq_false_iff.2 c1, Bool.false_and, Bool.false_and, Bool.false_and]; exact Ev.now _
theorem impl_IsWind_ev (l : List Gu) (hl : l.length < 1099511627776) : Ev (fun k => impl_IsWind.f k l) (pWind l) := by
  unfold impl_IsWind.f pWind
  refine ev_succ ?_
  cases l with
  | nil =>
    simp only [impl_IsWind.l0]
    exact Ev.now _
  | cons a t =>
    obtain ⟨h1, h2, h3, h4⟩ := ix (l := a :: t) (pre := []) rfl (by omega)
    simp only [List.length_nil, Int.natCast_zero] at h1 h2 h3
    simp only [impl_IsWind.l0, if_pos h1, if_pos (show (0 : Int) ≤ 0 by omega), Int.toNat_zero, rd_T69, h2, h3, impl_isWithin_eq, impl_isDrift_eq, Option.bind_some, if_neg (show ¬ ((0 : Int) > 0) by omega)]
    rw [wAll, gOk]
    change Ev (fun k => if (decide (0 ≤ a.f0) && decide (a.f0 ≤ 64)) = true then if gDr a.f1.f0 a.f1.f1 = true then _ else _ else _) _
    refine ev_ite (fun c1 => ?_) (fun c1 => ?_)
    · rw [c1, Bool.true_and]
      refine ev_ite (fun c2 => ?_) (fun c2 => ?_)
      · rw [c2, Bool.true_and]
        exact impl_IsWind_l0 (a :: t) hl t [] a rfl
      · rw [Bool.eq_false_iff.2 c2, Bool.false_and, Bool.false_and]; exact Ev.now _
    · rw [Bool.eq_false_iff.2 c1, Bool.false_and, Bool.false_and, Bool.false_and]; exact Ev.now _
theorem impl_DriftAt_l0 (l : List Gu) (u : Int) (hl : l.length < 1099511627776) : ∀ (suf pre : List Gu) (d1 d2 : Int), l = pre ++ suf →
    Ev (fun k => impl_DriftAt.l0 k u l (l.length : Int) (pre.length : Int) d1 d2) (pAt (d1, d2) suf u) := by
  intro suf
  induction suf with
  | nil =>
    intro pre d1 d2 h
    refine ev_succ ?_
    simp only [impl_DriftAt.l0, if_neg (ixn h)]
    exact Ev.now _
  | cons a t ih =>
    intro pre d1 d2 h
    obtain ⟨h1, h2, h3, h4⟩ := ix h (by omega)
    refine ev_succ ?_
    simp only [impl_DriftAt.l0, if_pos h1, if_pos (nn _), Int.toNat_natCast, rd_T69, h2, h3]
    rw [pAt, List.foldl_cons]
    refine ev_ite (fun c => ?_) (fun c => ?_)
    · rw [if_pos c]; exact ih _ _ _ h4
    · rw [if_neg c]; exact ih _ _ _ h4
theorem impl_DriftAt_ev (l : List Gu) (u : Int) (hl : l.length < 1099511627776) : Ev (fun k => impl_DriftAt.f k l u) (if pWind l = true then pAt (0, 0) l u else (0, 0)) := by
  unfold impl_DriftAt.f
  refine Ev.bind (impl_IsWind_ev l hl) ?_
  refine ev_ite (fun c => ?_) (fun c => ?_)
  · rw [if_pos c]; exact impl_DriftAt_l0 l u hl l [] 0 0 rfl
  · rw [if_neg c]; exact Ev.now _
theorem impl_DriftAt_ok {l : List Gu} (h : pWind l = true) (u : Int) : Ev (fun k => impl_DriftAt.f k l u) (pAt (0, 0) l u) := by
  have := impl_DriftAt_ev l u (by have := pWind_len h; omega)
  rwa [if_pos h] at this
/-- The sum of n drifts from tick t on. -/
def pOverN (w : List Gu) : Nat → Int → Int × Int → Int × Int
  | 0, _, s => s
  | n + 1, t, s => pOverN w n (t + 1) (wrap64 (s.1 + (pAt (0, 0) w t).1), wrap64 (s.2 + (pAt (0, 0) w t).2))
/-- DriftOver -/
def pOver (w : List Gu) (a b : Int) : Int × Int × Bool :=
  if pWind w = true ∧ 0 ≤ a ∧ a ≤ b ∧ b ≤ 128 then ((pOverN w (b - a).toNat a (0, 0)).1, (pOverN w (b - a).toNat a (0, 0)).2, true) else (0, 0, false)
theorem impl_DriftOver_l0 (w : List Gu) (b : Int) (hw : pWind w = true) (hb : b ≤ 128) : ∀ (n : Nat) (t x y : Int), 0 ≤ t → t + n = b →
    Ev (fun k => impl_DriftOver.l0 k w b t x y) ((pOverN w n t (x, y)).1, (pOverN w n t (x, y)).2, true) := by
  intro n
  induction n with
  | zero =>
    intro t x y h0 h
    refine ev_succ ?_
    simp only [impl_DriftOver.l0, if_neg (show ¬ (t < b) by omega)]
    exact Ev.now _
  | succ n ih =>
    intro t x y h0 h
    refine ev_succ ?_
    simp only [impl_DriftOver.l0, if_pos (show (t < b) by omega)]
    refine Ev.bind (impl_DriftAt_ok hw t) ?_
    rw [show wrap64 (t + 1) = t + 1 by unfold wrap64; omega]
    exact ih (t + 1) _ _ (by omega) (by omega)
theorem impl_DriftOver_ev (w : List Gu) (a b : Int) (hw : w.length < 1099511627776) : Ev (fun k => impl_DriftOver.f k w a b) (pOver w a b) := by
  have j1 : Ev (fun k => impl_DriftOver.j0 k w a b true) (0, 0, false) := by
    refine ev_succ ?_
    simp only [impl_DriftOver.j0, if_true]; exact Ev.now _
  unfold impl_DriftOver.f pOver
  refine Ev.bind (impl_IsWind_ev w hw) ?_
  refine ev_ite (fun h1 => ?_) (fun h1 => ?_)
  · refine ev_ite (fun h2 => ?_) (fun h2 => ?_)
    · rw [if_neg (by omega)]; exact j1
    · refine ev_ite (fun h3 => ?_) (fun h3 => ?_)
      · rw [if_neg (by omega)]; exact j1
      · by_cases h4 : b > 128
        · rw [if_neg (by omega)]; simpa only [decide_eq_true h4] using j1
        · rw [if_pos ⟨h1, by omega, by omega, by omega⟩, decide_eq_false h4]
          refine ev_succ ?_
          simp only [impl_DriftOver.j0, Bool.false_eq_true, if_false]
          exact impl_DriftOver_l0 w b h1 (by omega) (b - a).toNat a 0 0 (by omega) (by omega)
  · rw [if_neg (fun h => h1 h.1)]; exact j1
def rotN : Nat → Int × Int → Int × Int
  | 0, p => p
  | k + 1, p => rotN k (wrap64 (-p.2), p.1)
/-- A place turned by n quarters. -/
def pTurn4 (n : Int) (p : Int × Int) : Int × Int := rotN (n % 4).toNat p
theorem impl_turns_eq (n : Int) : impl_turns.f n = some (n % 4) := by
  unfold impl_turns.f
  by_cases h : 0 ≤ n
  · rw [Int.tmod_eq_emod_of_nonneg h, show wrap64 (n % 4 + 4) = n % 4 + 4 by unfold wrap64; omega, Int.tmod_eq_emod_of_nonneg (by omega)]
    congr 1; omega
  · have h4 : Int.tmod n 4 = -(-n % 4) := by
      rw [← Int.tmod_eq_emod_of_nonneg (a := -n) (b := 4) (by omega), Int.neg_tmod, Int.neg_neg]
    rw [h4, show wrap64 (-(-n % 4) + 4) = -(-n % 4) + 4 by unfold wrap64; omega, Int.tmod_eq_emod_of_nonneg (by omega)]
    congr 1; omega
theorem impl_turned_l0 : ∀ (m : Nat) (i e x y : Int), 0 ≤ i → i + m = e → e < 10 → Ev (fun k => impl_turned.l0 k e i x y) (rotN m (x, y)) := by
  intro m
  induction m with
  | zero =>
    intro i e x y h0 h _
    refine ev_succ ?_
    simp only [impl_turned.l0, if_neg (show ¬ (i < e) by omega)]
    exact Ev.now _
  | succ m ih =>
    intro i e x y h0 h he
    refine ev_succ ?_
    simp only [impl_turned.l0, if_pos (show (i < e) by omega)]
    rw [show wrap64 (i + 1) = i + 1 by unfold wrap64; omega]
    exact ih (i + 1) e _ _ (by omega) (by omega) he
theorem impl_turned_ev (x y n : Int) : Ev (fun k => impl_turned.f k x y n) (pTurn4 n (x, y)) := by
  unfold impl_turned.f pTurn4
  simp only [impl_turns_eq, Option.bind_some]
  exact impl_turned_l0 (n % 4).toNat 0 (n % 4) x y (by omega) (by omega) (by omega)
def gTurn (n : Int) (g : Gu) : Gu := ⟨g.f0, ⟨(pTurn4 n (g.f1.f0, g.f1.f1)).1, (pTurn4 n (g.f1.f0, g.f1.f1)).2⟩⟩
/-- TurnWind -/
def pTurnWind (w : List Gu) (n : Int) : List Gu := if pWind w = true then w.map (gTurn n) else []
theorem pTurnWind_length (w : List Gu) (n : Int) : (pTurnWind w n).length ≤ w.length := by
  unfold pTurnWind; split <;> simp
theorem impl_TurnWind_l0 (l : List Gu) (n : Int) (hl : l.length < 1099511627776) : ∀ (suf pre out : List Gu), l = pre ++ suf → out.length ≤ pre.length →
    Ev (fun k => impl_TurnWind.l0 k n out l (l.length : Int) (pre.length : Int)) (out ++ suf.map (gTurn n)) := by
  intro suf
  induction suf with
  | nil =>
    intro pre out h ho
    refine ev_succ ?_
    simp only [impl_TurnWind.l0, if_neg (ixn h), List.map_nil, List.append_nil]
    exact Ev.now _
  | cons a t ih =>
    intro pre out h ho
    obtain ⟨h1, h2, h3, h4⟩ := ix h (by omega)
    refine ev_succ ?_
    simp only [impl_TurnWind.l0, if_pos h1, if_pos (nn _), Int.toNat_natCast, rd_T69, h2, h3]
    refine Ev.bind (impl_turned_ev _ _ _) ?_
    simp only [if_pos (show out.length < 5864062014805 by omega)]
    have := ih (pre ++ [a]) (out ++ [gTurn n a]) h4 (by simp; omega)
    simpa [gTurn] using this
theorem impl_TurnWind_ev (l : List Gu) (n : Int) (hl : l.length < 1099511627776) : Ev (fun k => impl_TurnWind.f k l n) (pTurnWind l n) := by
  simp only [impl_TurnWind.f, Option.bind_some]
  refine Ev.bind (impl_IsWind_ev l hl) ?_
  unfold pTurnWind
  refine ev_ite (fun c => ?_) (fun c => ?_)
  · rw [if_pos c]; exact impl_TurnWind_l0 l n hl l [] [] rfl (by simp)
  · rw [if_neg c]; exact Ev.now _
/-- Those gusts that change the drift. -/
def chg : Int × Int → List Gu → List Gu
  | _, [] => []
  | d, g :: t => if (g.f1.f0, g.f1.f1) = d then chg d t else g :: chg (g.f1.f0, g.f1.f1) t
/-- The gusts of a list of drifts, from tick i on. -/
def frm : Int → Int × Int → List Pl → List Gu
  | _, _, [] => []
  | i, d, p :: t => if (p.f0, p.f1) = d then frm (i + 1) d t else ⟨i, ⟨p.f0, p.f1⟩⟩ :: frm (i + 1) (p.f0, p.f1) t
/-- The drifts that f tells, n of them, from tick s on. -/
def lstF (f : Int → Int × Int) : Nat → Int → List Pl
  | 0, _ => []
  | n + 1, s => ⟨(f s).1, (f s).2⟩ :: lstF f n (s + 1)
theorem lstF_length (f : Int → Int × Int) : ∀ n s, (lstF f n s).length = n
  | 0, _ => rfl
  | n + 1, s => by simp [lstF, lstF_length f n]
theorem lstF_congr {f g : Int → Int × Int} : ∀ (n : Nat) (s : Int), (∀ t, s ≤ t → t < s + n → f t = g t) → lstF f n s = lstF g n s
  | 0, _, _ => rfl
  | n + 1, s, h => by
    rw [lstF, lstF, h s (by omega) (by omega), lstF_congr n (s + 1) (fun t h1 h2 => h t (by omega) (by omega))]
theorem chg_length : ∀ (w : List Gu) (d : Int × Int), (chg d w).length ≤ w.length
  | [], _ => by simp [chg]
  | g :: t, d => by
    unfold chg
    split
    · have := chg_length t d; simp; omega
    · have := chg_length t (g.f1.f0, g.f1.f1); simp; omega
theorem frm_length : ∀ (l : List Pl) (i : Int) (d : Int × Int), (frm i d l).length ≤ l.length
  | [], _, _ => by simp [frm]
  | p :: t, i, d => by
    unfold frm
    split
    · have := frm_length t (i + 1) d; simp; omega
    · have := frm_length t (i + 1) (p.f0, p.f1); simp; omega
def asc : Int → List Gu → Prop
  | _, [] => True
  | s, g :: t => s ≤ g.f0 ∧ asc (g.f0 + 1) t
theorem asc_le : ∀ {w : List Gu} {s s' : Int}, s' ≤ s → asc s w → asc s' w
  | [], _, _, _, _ => trivial
  | g :: t, s, s', h, k => ⟨Int.le_trans h k.1, k.2⟩
theorem asc_mem : ∀ {w : List Gu} {s : Int}, asc s w → ∀ g ∈ w, s ≤ g.f0
  | [], _, _, g, hg => by simp at hg
  | a :: t, s, h, g, hg => by
    rcases List.mem_cons.1 hg with rfl | hg
    · exact h.1
    · have := asc_mem h.2 g hg
      have := h.1
      omega
theorem pAt_before : ∀ {w : List Gu} {s : Int} (d : Int × Int) (t : Int), asc s w → t < s → pAt d w t = d
  | [], _, _, _, _, _ => rfl
  | g :: w, s, d, t, h, ht => by
    have h1 := h.1
    rw [pAt, List.foldl_cons, if_neg (by omega)]
    exact pAt_before d t h.2 (by omega)
theorem pAt_cons (d : Int × Int) (g : Gu) (w : List Gu) (t : Int) : pAt d (g :: w) t = pAt (if g.f0 ≤ t then (g.f1.f0, g.f1.f1) else d) w t := rfl
/-- What changes, told by the drifts alone. -/
theorem chg_frm : ∀ (n : Nat) (s : Int) (d : Int × Int) (w : List Gu), asc s w → (∀ g ∈ w, g.f0 < s + n) → chg d w = frm s d (lstF (pAt d w) n s) := by
  intro n
  induction n with
  | zero =>
    intro s d w ha hb
    cases w with
    | nil => rfl
    | cons g t =>
      have := hb g (by simp)
      have := ha.1
      omega
  | succ n ih =>
    intro s d w ha hb
    rw [lstF, frm]
    cases w with
    | nil =>
      have h1 : pAt d [] s = d := rfl
      rw [h1, if_pos rfl]
      exact ih (s + 1) d [] trivial (fun g hg => by simp at hg)
    | cons g t =>
      have ha1 := ha.1
      by_cases hg : g.f0 = s
      · have h1 : pAt d (g :: t) s = (g.f1.f0, g.f1.f1) := by
          rw [pAt_cons, if_pos (by omega)]
          exact pAt_before _ s ha.2 (by omega)
        have h2 : lstF (pAt d (g :: t)) n (s + 1) = lstF (pAt (g.f1.f0, g.f1.f1) t) n (s + 1) := by
          refine lstF_congr n (s + 1) (fun t' h3 h4 => ?_)
          rw [pAt_cons, if_pos (by omega)]
        have h3 := ih (s + 1) (g.f1.f0, g.f1.f1) t (by have := ha.2; rwa [hg] at this) (fun g' hg' => by have := hb g' (by simp [hg']); omega)
        rw [h1, h2, chg]
        by_cases hd : (g.f1.f0, g.f1.f1) = d
        · rw [if_pos hd, if_pos hd, ← hd]; exact h3
        · rw [if_neg hd, if_neg hd, h3, ← hg]
      · have h1 : pAt d (g :: t) s = d := by
          rw [pAt_cons, if_neg (by omega)]
          exact pAt_before _ s ha.2 (by omega)
        rw [h1, if_pos rfl]
        exact ih (s + 1) d (g :: t) ⟨by omega, ha.2⟩ (fun g' hg' => by have := hb g' hg'; omega)
theorem pAt_chg : ∀ (w : List Gu) (s : Int) (d : Int × Int) (t : Int), asc s w → pAt d (chg d w) t = pAt d w t
  | [], _, _, _, _ => rfl
  | g :: w, s, d, t, h => by
    rw [chg]
    by_cases hd : (g.f1.f0, g.f1.f1) = d
    · rw [if_pos hd, pAt_chg w _ d t h.2, pAt_cons, hd]
      congr 1; split <;> rfl
    · rw [if_neg hd, pAt_cons, pAt_cons]
      by_cases ht : g.f0 ≤ t
      · rw [if_pos ht]; exact pAt_chg w _ _ t h.2
      · rw [if_neg ht]
        have hc : asc (g.f0 + 1) (chg (g.f1.f0, g.f1.f1) w) := by
          have : ∀ (w : List Gu) (s : Int) (d : Int × Int), asc s w → asc s (chg d w) := by
            intro w
            induction w with
            | nil => intro s d _; trivial
            | cons a w ih =>
              intro s d h
              have := h.1
              rw [chg]
              split
              · exact asc_le (show s ≤ a.f0 + 1 by omega) (ih _ d h.2)
              · exact ⟨h.1, ih _ _ h.2⟩
          exact this w _ _ h.2
        rw [pAt_before d t hc (by omega), pAt_before d t h.2 (by omega)]
theorem asc_chg : ∀ (w : List Gu) (s : Int) (d : Int × Int), asc s w → asc s (chg d w)
  | [], _, _, _ => trivial
  | a :: w, s, d, h => by
    have := h.1
    rw [chg]
    split
    · exact asc_le (show s ≤ a.f0 + 1 by omega) (asc_chg w _ d h.2)
    · exact ⟨h.1, asc_chg w _ _ h.2⟩
theorem chg_mem : ∀ (w : List Gu) (d : Int × Int), ∀ g ∈ chg d w, g ∈ w
  | [], _, g, hg => by simp [chg] at hg
  | a :: w, d, g, hg => by
    rw [chg] at hg
    split at hg
    · exact List.mem_cons_of_mem _ (chg_mem w d g hg)
    · rcases List.mem_cons.1 hg with rfl | hg
      · simp
      · exact List.mem_cons_of_mem _ (chg_mem w _ g hg)
theorem chg_idem : ∀ (w : List Gu) (d : Int × Int), chg d (chg d w) = chg d w
  | [], _ => rfl
  | a :: w, d => by
    rw [chg]
    split
    · exact chg_idem w d
    · rename_i h
      rw [chg, if_neg h, chg_idem w]
theorem wRest_iff : ∀ (t : List Gu) (p : Gu), wRest p t = true ↔ asc (p.f0 + 1) t ∧ ∀ g ∈ t, gOk g = true
  | [], p => by simp [wRest, asc]
  | a :: t, p => by
    simp only [wRest, Bool.and_eq_true, decide_eq_true_eq, wRest_iff t a, asc, List.mem_cons, forall_eq_or_imp]
    constructor
    · rintro ⟨h1, h2, h3, h4⟩; exact ⟨⟨by omega, h3⟩, h1, h4⟩
    · rintro ⟨⟨h1, h2⟩, h3, h4⟩; exact ⟨h3, by omega, h2, h4⟩
theorem gOk_from {g : Gu} (h : gOk g = true) : 0 ≤ g.f0 ∧ g.f0 ≤ 64 := by
  simp only [gOk, Bool.and_eq_true, decide_eq_true_eq] at h; exact h.1
theorem pWind_iff (w : List Gu) : pWind w = true ↔ (asc 0 w ∧ ∀ g ∈ w, gOk g = true) ∧ w.length ≤ 8 := by
  cases w with
  | nil => simp [pWind, wAll, asc]
  | cons a t =>
    simp only [pWind, wAll, Bool.and_eq_true, decide_eq_true_eq, wRest_iff, asc, List.mem_cons, forall_eq_or_imp]
    constructor
    · rintro ⟨⟨h1, h2, h3⟩, h4⟩; exact ⟨⟨⟨(gOk_from h1).1, h2⟩, h1, h3⟩, by omega⟩
    · rintro ⟨⟨⟨h0, h2⟩, h1, h3⟩, h4⟩; exact ⟨⟨h1, h2, h3⟩, by omega⟩
theorem pWind_chg {w : List Gu} (h : pWind w = true) : pWind (chg (0, 0) w) = true := by
  rw [pWind_iff] at h ⊢
  exact ⟨⟨asc_chg _ _ _ h.1.1, fun g hg => h.1.2 g (chg_mem _ _ g hg)⟩, Nat.le_trans (chg_length _ _) h.2⟩
theorem ev_ne {α : Type} {a b x y : Int} {f g : Nat → Option α} {r : α} (h : (a, b) ≠ (x, y) → Ev f r) (h' : (a, b) = (x, y) → Ev g r) : Ev (fun k => if (!(a == x) || (!(b == y))) = true then f k else g k) r := by
  by_cases e : (a, b) = (x, y)
  · have := Prod.mk.inj e
    rw [show (!(a == x) || (!(b == y))) = false by simp [this.1, this.2]]
    simpa using h' e
  · have : (!(a == x) || (!(b == y))) = true := by
      by_cases h1 : a = x
      · by_cases h2 : b = y
        · exact absurd (by rw [h1, h2]) e
        · simp [h2]
      · simp [h1]
    rw [this]
    simpa using h e
def pMeas' (x : Int) : Bool := decide (-4096 ≤ x) && decide (x ≤ 4096)
theorem impl_IsMeasure_eq (x : Int) : impl_IsMeasure.f x = some (pMeas' x) := by
  simp only [impl_IsMeasure.f, impl_isWithin_eq, Option.bind_some, pMeas']
def pPlace (x y : Int) : Bool := (decide (-4096 ≤ x) && decide (x ≤ 4096)) && (decide (-4096 ≤ y) && decide (y ≤ 4096))
theorem impl_IsPlace_eq (x y : Int) : impl_IsPlace.f x y = some (pPlace x y) := by
  simp only [impl_IsPlace.f, impl_IsMeasure_eq, Option.bind_some, pPlace, pMeas']
  cases (decide (-4096 ≤ x) && decide (x ≤ 4096)) <;> simp
theorem l1Some_ok (b : List Int) (i h lo hi : Int) (hb : b.length < 1099511627776) (hi0 : 0 ≤ i) (h1 : lo ≤ hi) (h2 : -100000 ≤ lo) (h3 : hi ≤ 100000) : ∃ r i' h', spec_l1Some.f b i h lo hi = some (r, i', h') ∧ 0 ≤ i' ∧ lo ≤ r ∧ r ≤ hi := by
  unfold spec_l1Some.f
  obtain ⟨r, i', h', e, hi', h0, hr⟩ := l1Below_ok b i h (wrap64 ((wrap64 (hi - lo)) + 1)) hb hi0
  rw [e]; simp only [Option.bind_some]
  have : wrap64 ((wrap64 (hi - lo)) + 1) = hi - lo + 1 := by unfold wrap64; omega
  rw [this] at hr
  exact ⟨_, _, _, rfl, hi', by unfold wrap64; omega, by unfold wrap64; omega⟩
theorem l4DriftDraw_ok (b : List Int) (i h : Int) (hb : b.length < 1099511627776) (hi0 : 0 ≤ i) : ∃ x y i' h', spec_l4DriftDraw.f b i h = some (x, y, i', h') ∧ 0 ≤ i' ∧ (-3 ≤ x ∧ x ≤ 3) ∧ (-3 ≤ y ∧ y ≤ 3) := by
  unfold spec_l4DriftDraw.f
  obtain ⟨x, i1, h1, e1, hi1, hx⟩ := l1Some_ok b i h (-3) 3 hb hi0 (by omega) (by omega) (by omega)
  rw [e1]; simp only [Option.bind_some]
  obtain ⟨y, i2, h2, e2, hi2, hy⟩ := l1Some_ok b i1 h1 (-3) 3 hb hi1 (by omega) (by omega) (by omega)
  rw [e2]; simp only [Option.bind_some]
  exact ⟨_, _, _, _, rfl, hi2, hx, hy⟩
theorem asc_snoc : ∀ (w : List Gu) (s : Int) (g : Gu), asc s w → (∀ x ∈ w, x.f0 < g.f0) → s ≤ g.f0 → asc s (w ++ [g])
  | [], s, g, _, _, h => ⟨h, trivial⟩
  | a :: w, s, g, h, hb, hs => ⟨h.1, asc_snoc w _ g h.2 (fun x hx => hb x (by simp [hx])) (by have := hb a (by simp); omega)⟩
theorem l4Draw_l0 (b : List Int) (hb : b.length < 1099511627776) : ∀ (n : Nat) (out : List Gu) (t i h : Int), 0 ≤ i → 0 ≤ t → t + 9 * n ≤ 64 → out.length + n ≤ 8 → asc 0 out → (∀ g ∈ out, gOk g = true) → (∀ g ∈ out, g.f0 < t) →
    ∃ r i' h', Ev (fun k => spec_l4Draw.l0 k out t (n : Int) b i h) (r, i', h') ∧ 0 ≤ i' ∧ pWind r = true ∧ r.length = out.length + n := by
  intro n
  induction n with
  | zero =>
    intro out t i h hi h0 ht hl ha hg hlt
    refine ⟨out, i, h, ev_succ ?_, hi, (pWind_iff out).2 ⟨⟨ha, hg⟩, by omega⟩, rfl⟩
    simp only [spec_l4Draw.l0, if_neg (show ¬ (((0 : Nat) : Int) > 0) by omega)]
    exact Ev.now _
  | succ n ih =>
    intro out t i h hi h0 ht hl ha hg hlt
    obtain ⟨x, y, i1, h1, e1, hi1, hx, hy⟩ := l4DriftDraw_ok b i h hb hi
    obtain ⟨c, i2, h2, e2, hi2, hc0, hc1⟩ := l1Below_ok b i1 h1 9 hb hi1
    obtain ⟨r, i3, h3, e3, hi3, hr, hrl⟩ := ih (out ++ [⟨t, ⟨x, y⟩⟩]) (t + 1 + c) i2 h2 hi2 (by omega) (by omega) (by simp; omega) (asc_snoc out 0 ⟨t, ⟨x, y⟩⟩ ha hlt h0)
      (fun g hgm => by
        rcases List.mem_append.1 hgm with hgm | hgm
        · exact hg g hgm
        · rw [List.mem_singleton.1 hgm]
          simp only [gOk, gDr, Bool.and_eq_true, decide_eq_true_eq]
          omega)
      (fun g hgm => by
        rcases List.mem_append.1 hgm with hgm | hgm
        · have := hlt g hgm; omega
        · rw [List.mem_singleton.1 hgm]; show t < t + 1 + c; omega)
    refine ⟨r, i3, h3, ev_succ ?_, hi3, hr, by simp at hrl; omega⟩
    simp only [spec_l4Draw.l0, if_pos (show (((n + 1 : Nat) : Int) > 0) by omega), e1, e2, Option.bind_some, if_pos (show out.length < 5864062014805 by omega)]
    rw [show wrap64 (((n + 1 : Nat) : Int) - 1) = (n : Int) by unfold wrap64; omega, show wrap64 (wrap64 (t + 1) + c) = t + 1 + c by unfold wrap64; omega]
    exact e3
theorem l4Draw_ok (b : List Int) (i h : Int) (hb : b.length < 1099511627776) (hi : 0 ≤ i) : ∃ r i' h', Ev (fun k => spec_l4Draw.f k b i h) (r, i', h') ∧ 0 ≤ i' ∧ pWind r = true := by
  obtain ⟨t, i1, h1, e1, hi1, ht⟩ := l1Int_ok b i h [0, 0, 1, 5] hb hi (by simp)
  obtain ⟨c, i2, h2, e2, hi2, hc0, hc1⟩ := l1Below_ok b i1 h1 6 hb hi1
  obtain ⟨n, rfl⟩ := Int.eq_ofNat_of_zero_le hc0
  have ht' : 0 ≤ t ∧ t ≤ 5 := by
    simp only [List.mem_cons, List.not_mem_nil, or_false] at ht; omega
  obtain ⟨r, i3, h3, e3, hi3, hr, _⟩ := l4Draw_l0 b hb n [] t i2 h2 hi2 ht'.1 (by omega) (by simp; omega) trivial (fun g hg => by simp at hg) (fun g hg => by simp at hg)
  refine ⟨r, i3, h3, ?_, hi3, hr⟩
  simp only [spec_l4Draw.f, e1, e2, Option.bind_some]
  exact e3
theorem l4Any_l0 (b : List Int) (hb : b.length < 1099511627776) : ∀ (d : Nat) (out : List Gu) (j i h : Int), 0 ≤ i → 0 ≤ j → j + d ≥ 9 → out.length = j → j ≤ 9 →
    ∃ r i' h', Ev (fun k => spec_l4Any.l0 k out j b i h) (r, i', h') ∧ 0 ≤ i' ∧ r.length ≤ 9 := by
  intro d
  induction d with
  | zero =>
    intro out j i h hi h0 hd ho hj
    obtain ⟨c, i1, h1, e1, hi1, hc⟩ := l1Int_ok b i h [8, 9] hb hi (by simp)
    have hc' : 0 ≤ c ∧ c ≤ 9 := by
      simp only [List.mem_cons, List.not_mem_nil, or_false] at hc; omega
    refine ⟨out.take c.toNat, i1, h1, ev_succ ?_, hi1, by simp; omega⟩
    simp only [spec_l4Any.l0, if_neg (show ¬ (j < 9) by omega), e1, Option.bind_some, if_pos hc'.1, if_pos (show c ≤ (out.length : Int) by omega)]
    exact Ev.now _
  | succ d ih =>
    intro out j i h hi h0 hd ho hj
    by_cases hj9 : j < 9
    · obtain ⟨x, y, i1, h1, e1, hi1, hx, hy⟩ := l4DriftDraw_ok b i h hb hi
      obtain ⟨r, i2, h2, e2, hi2, hr⟩ := ih (out ++ [⟨wrap64 (50 + j), ⟨x, y⟩⟩]) (j + 1) i1 h1 hi1 (by omega) (by omega) (by simp; omega) (by omega)
      refine ⟨r, i2, h2, ev_succ ?_, hi2, hr⟩
      simp only [spec_l4Any.l0, if_pos hj9, e1, Option.bind_some, if_pos (show out.length < 5864062014805 by omega)]
      rw [show wrap64 (j + 1) = j + 1 by unfold wrap64; omega]
      exact e2
    · obtain ⟨c, i1, h1, e1, hi1, hc⟩ := l1Int_ok b i h [8, 9] hb hi (by simp)
      have hc' : 0 ≤ c ∧ c ≤ 9 := by
        simp only [List.mem_cons, List.not_mem_nil, or_false] at hc; omega
      refine ⟨out.take c.toNat, i1, h1, ev_succ ?_, hi1, by simp; omega⟩
      simp only [spec_l4Any.l0, if_neg hj9, e1, Option.bind_some, if_pos hc'.1, if_pos (show c ≤ (out.length : Int) by omega)]
      exact Ev.now _
theorem l4Any_ok (b : List Int) (i h : Int) (hb : b.length < 1099511627776) (hi : 0 ≤ i) : ∃ r i' h', Ev (fun k => spec_l4Any.f k b i h) (r, i', h') ∧ 0 ≤ i' ∧ r.length ≤ 9 := by
  obtain ⟨r, i1, h1, e1, hi1, hr⟩ := l4Draw_ok b i h hb hi
  have hrl := pWind_len hr
  obtain ⟨c, i2, h2, e2, hi2, _, _⟩ := l1Below_ok b i1 h1 12 hb hi1
  by_cases c0 : c = 0
  · obtain ⟨x, i3, h3, e3, hi3⟩ := l1Odd_ok b i2 h2 hb hi2
    obtain ⟨y, z, i4, h4, e4, hi4, _, _⟩ := l4DriftDraw_ok b i3 h3 hb hi3
    refine ⟨r ++ [⟨x, ⟨y, z⟩⟩], i4, h4, ?_, hi4, by simp; omega⟩
    unfold spec_l4Any.f
    refine Ev.bind e1 ?_
    simp only [e2, e3, e4, Option.bind_some, if_pos c0, if_pos (show r.length < 5864062014805 by omega)]
    exact Ev.now _
  · by_cases c1 : c = 1
    · obtain ⟨x, i3, h3, e3, hi3, _⟩ := l1Int_ok b i2 h2 [8, 9, (-8), (-9)] hb hi2 (by simp)
      refine ⟨r ++ [⟨64, ⟨x, 1⟩⟩], i3, h3, ?_, hi3, by simp; omega⟩
      unfold spec_l4Any.f
      refine Ev.bind e1 ?_
      simp only [e2, e3, Option.bind_some, if_neg c0, if_pos c1, if_pos (show r.length < 5864062014805 by omega)]
      exact Ev.now _
    · by_cases c2 : c = 2
      · obtain ⟨q, i3, h3, e3, hi3, hq⟩ := l4Any_l0 b hb 9 r (r.length : Int) i2 h2 hi2 (by omega) (by omega) rfl (by omega)
        refine ⟨q, i3, h3, ?_, hi3, hq⟩
        unfold spec_l4Any.f
        refine Ev.bind e1 ?_
        simp only [e2, Option.bind_some, if_neg c0, if_neg c1, if_pos c2]
        exact e3
      · refine ⟨r, i2, h2, ?_, hi2, by omega⟩
        unfold spec_l4Any.f
        refine Ev.bind e1 ?_
        simp only [e2, Option.bind_some, if_neg c0, if_neg c1, if_neg c2]
        exact Ev.now _
theorem l2Turns_ok (b : List Int) (i h : Int) (hb : b.length < 1099511627776) (hi : 0 ≤ i) : ∃ r i' h', spec_l2Turns.f b i h = some (r, i', h') ∧ 0 ≤ i' := by
  unfold spec_l2Turns.f
  obtain ⟨c, i1, h1, e1, hi1⟩ := l1Once_ok b i h 6 hb hi
  rw [e1]; simp only [Option.bind_some]
  split
  · obtain ⟨x, i2, h2, e2, hi2⟩ := l1Odd_ok b i1 h1 hb hi1
    rw [e2]; simp only [Option.bind_some]
    exact ⟨_, _, _, rfl, hi2⟩
  · obtain ⟨x, i2, h2, e2, hi2, _⟩ := l1Below_ok b i1 h1 12 hb hi1
    rw [e2]; simp only [Option.bind_some]
    exact ⟨_, _, _, rfl, hi2⟩
theorem DrawWind_ok (b : List Int) (hb : b.length < 1099511627776) : ∃ w x y, Ev (fun k => spec_DrawWind.f k b) (w, x, y) ∧ pWind w = true ∧ 0 ≤ x ∧ x ≤ y ∧ y ≤ 80 ∧ y - x ≤ 40 := by
  obtain ⟨h0, e0⟩ := l1New_ev b hb
  obtain ⟨w, i1, h1, e1, hi1, hw⟩ := l4Draw_ok b 0 h0 hb (by omega)
  obtain ⟨x, i2, h2, e2, hi2, hx0, hx1⟩ := l1Below_ok b i1 h1 40 hb hi1
  obtain ⟨y, i3, h3, e3, hi3, hy0, hy1⟩ := l1Below_ok b i2 h2 40 hb hi2
  refine ⟨w, x, x + y, ?_, hw, hx0, by omega, by omega, by omega⟩
  unfold spec_DrawWind.f
  refine Ev.bind e0 ?_
  refine Ev.bind e1 ?_
  simp only [e2, e3, Option.bind_some]
  rw [show wrap64 (x + y) = x + y by unfold wrap64; omega]
  exact Ev.now _
theorem DrawTurnWind_ok (b : List Int) (hb : b.length < 1099511627776) : ∃ w n, Ev (fun k => spec_DrawTurnWind.f k b) (w, n) := by
  obtain ⟨h0, e0⟩ := l1New_ev b hb
  obtain ⟨w, i1, h1, e1, hi1, hw⟩ := l4Any_ok b 0 h0 hb (by omega)
  obtain ⟨n, i2, h2, e2, hi2⟩ := l2Turns_ok b i1 h1 hb hi1
  refine ⟨w, n, ?_⟩
  unfold spec_DrawTurnWind.f
  refine Ev.bind e0 ?_
  refine Ev.bind e1 ?_
  simp only [e2, Option.bind_some]
  exact Ev.now _
theorem laws_winds_l0 (x : List Gu) (hl : x.length < 1099511627776) : ∀ (d i : Nat), i + d = x.length → Ev (fun k => laws_winds.l0 k x x (i : Int)) true := by
  intro d
  induction d with
  | zero =>
    intro i h
    refine ev_succ ?_
    simp only [laws_winds.l0, if_neg (show ¬ ((i : Int) < (x.length : Int)) by omega)]
    exact Ev.now _
  | succ d ih =>
    intro i h
    refine ev_succ ?_
    simp only [laws_winds.l0, if_pos (show ((i : Int) < (x.length : Int)) by omega), if_pos (nn _), beq_self_eq_true, Bool.not_true, Bool.or_self, Bool.false_eq_true, if_false]
    rw [show wrap64 ((i : Int) + 1) = ((i + 1 : Nat) : Int) by unfold wrap64; omega]
    exact ih (i + 1) (by omega)
theorem laws_winds_rfl (x : List Gu) (hl : x.length < 1099511627776) : Ev (fun k => laws_winds.f k x x) true := by
  simp only [laws_winds.f, if_true]
  exact laws_winds_l0 x hl x.length 0 (by omega)
theorem impl_TurnPlace_ev {x y : Int} (n : Int) (h : pPlace x y = true) : Ev (fun k => impl_TurnPlace.f k x y n) (pTurn4 n (x, y)) := by
  unfold impl_TurnPlace.f
  simp only [impl_IsPlace_eq, Option.bind_some, h, if_true]
  exact Ev.bind (impl_turned_ev x y n) (Ev.now _)
theorem pTurn4_cases (n : Int) : (n % 4 = 0 ∧ ∀ x y : Int, (-1000000 ≤ x ∧ x ≤ 1000000) ∧ (-1000000 ≤ y ∧ y ≤ 1000000) → pTurn4 n (x, y) = (x, y)) ∨ (n % 4 = 1 ∧ ∀ x y : Int, (-1000000 ≤ x ∧ x ≤ 1000000) ∧ (-1000000 ≤ y ∧ y ≤ 1000000) → pTurn4 n (x, y) = (-y, x)) ∨
    (n % 4 = 2 ∧ ∀ x y : Int, (-1000000 ≤ x ∧ x ≤ 1000000) ∧ (-1000000 ≤ y ∧ y ≤ 1000000) → pTurn4 n (x, y) = (-x, -y)) ∨ (n % 4 = 3 ∧ ∀ x y : Int, (-1000000 ≤ x ∧ x ≤ 1000000) ∧ (-1000000 ≤ y ∧ y ≤ 1000000) → pTurn4 n (x, y) = (y, -x)) := by
  have h : n % 4 = 0 ∨ n % 4 = 1 ∨ n % 4 = 2 ∨ n % 4 = 3 := by omega
  rcases h with h | h | h | h
  · exact .inl ⟨h, fun x y _ => by rw [pTurn4, h]; rfl⟩
  · refine .inr (.inl ⟨h, fun x y hb => ?_⟩)
    rw [pTurn4, h, show ((1 : Int)).toNat = 1 from rfl]
    simp only [rotN, Prod.mk.injEq]
    exact ⟨by unfold wrap64; omega, trivial⟩
  · refine .inr (.inr (.inl ⟨h, fun x y hb => ?_⟩))
    rw [pTurn4, h, show ((2 : Int)).toNat = 2 from rfl]
    simp only [rotN, Prod.mk.injEq]
    exact ⟨by unfold wrap64; omega, by unfold wrap64; omega⟩
  · refine .inr (.inr (.inr ⟨h, fun x y hb => ?_⟩))
    rw [pTurn4, h, show ((3 : Int)).toNat = 3 from rfl]
    simp only [rotN, Prod.mk.injEq]
    exact ⟨by unfold wrap64; omega, by unfold wrap64; omega⟩
theorem pTurn4_bound (n : Int) {x y B : Int} (hB : B ≤ 1000000) (h : (-B ≤ x ∧ x ≤ B) ∧ (-B ≤ y ∧ y ≤ B)) : (-B ≤ (pTurn4 n (x, y)).1 ∧ (pTurn4 n (x, y)).1 ≤ B) ∧ (-B ≤ (pTurn4 n (x, y)).2 ∧ (pTurn4 n (x, y)).2 ≤ B) := by
  rcases pTurn4_cases n with ⟨_, e⟩ | ⟨_, e⟩ | ⟨_, e⟩ | ⟨_, e⟩
  all_goals
    rw [e x y (by omega)]
    omega
theorem pTurn4_add (n : Int) {x y u v : Int} (h : (-100000 ≤ x ∧ x ≤ 100000) ∧ (-100000 ≤ y ∧ y ≤ 100000)) (k : (-100000 ≤ u ∧ u ≤ 100000) ∧ (-100000 ≤ v ∧ v ≤ 100000)) :
    pTurn4 n (x + u, y + v) = ((pTurn4 n (x, y)).1 + (pTurn4 n (u, v)).1, (pTurn4 n (x, y)).2 + (pTurn4 n (u, v)).2) := by
  rcases pTurn4_cases n with ⟨_, e⟩ | ⟨_, e⟩ | ⟨_, e⟩ | ⟨_, e⟩
  all_goals
    rw [e x y (by omega), e u v (by omega), e (x + u) (y + v) (by omega)]
    (try (apply Prod.ext <;> (try dsimp only) <;> omega))
theorem pTurn4_back (n m : Int) (hm : (n + m) % 4 = 0) {x y : Int} (h : (-100000 ≤ x ∧ x ≤ 100000) ∧ (-100000 ≤ y ∧ y ≤ 100000)) : pTurn4 m (pTurn4 n (x, y)) = (x, y) := by
  rcases pTurn4_cases n with ⟨hn, e⟩ | ⟨hn, e⟩ | ⟨hn, e⟩ | ⟨hn, e⟩ <;> rcases pTurn4_cases m with ⟨hk, e'⟩ | ⟨hk, e'⟩ | ⟨hk, e'⟩ | ⟨hk, e'⟩
  all_goals first
    | (exfalso; omega)
    | (rw [e x y (by omega), e' _ _ (by omega)]; try (apply Prod.ext <;> (try dsimp only) <;> omega))
theorem back_turns (n : Int) : (n + wrap64 (4 - Int.tmod n 4)) % 4 = 0 := by
  have : -3 ≤ Int.tmod n 4 ∧ Int.tmod n 4 ≤ 3 ∧ (n - Int.tmod n 4) % 4 = 0 := by
    by_cases h : 0 ≤ n
    · rw [Int.tmod_eq_emod_of_nonneg h]; omega
    · have h4 : Int.tmod n 4 = -(-n % 4) := by
        rw [← Int.tmod_eq_emod_of_nonneg (a := -n) (b := 4) (by omega), Int.neg_tmod, Int.neg_neg]
      rw [h4]; omega
  rw [show wrap64 (4 - Int.tmod n 4) = 4 - Int.tmod n 4 by unfold wrap64; omega]
  omega
theorem gDr_iff (a b : Int) : gDr a b = true ↔ (-8 ≤ a ∧ a ≤ 8) ∧ (-8 ≤ b ∧ b ≤ 8) := by simp [gDr]
theorem gOk_drift {g : Gu} (h : gOk g = true) : (-8 ≤ g.f1.f0 ∧ g.f1.f0 ≤ 8) ∧ (-8 ≤ g.f1.f1 ∧ g.f1.f1 ≤ 8) := by
  simp only [gOk, Bool.and_eq_true] at h; exact (gDr_iff _ _).1 h.2
theorem gOk_turn {g : Gu} (n : Int) (h : gOk g = true) : gOk (gTurn n g) = true := by
  have h1 := gOk_from h
  have h2 := pTurn4_bound n (B := 8) (by omega) (gOk_drift h)
  simp only [gOk, Bool.and_eq_true, decide_eq_true_eq]
  exact ⟨h1, (gDr_iff _ _).2 h2⟩
theorem asc_turn (n : Int) : ∀ (w : List Gu) (s : Int), asc s w → asc s (w.map (gTurn n))
  | [], _, _ => trivial
  | g :: w, s, h => ⟨h.1, asc_turn n w _ h.2⟩
theorem pWind_turn {w : List Gu} (n : Int) (h : pWind w = true) : pWind (w.map (gTurn n)) = true := by
  rw [pWind_iff] at h ⊢
  refine ⟨⟨asc_turn n w 0 h.1.1, fun g hg => ?_⟩, by simpa using h.2⟩
  obtain ⟨x, hx, rfl⟩ := List.mem_map.1 hg
  exact gOk_turn n (h.1.2 x hx)
theorem pAt_bound : ∀ (w : List Gu) (d : Int × Int) (t : Int), (∀ g ∈ w, gOk g = true) → ((-8 ≤ d.1 ∧ d.1 ≤ 8) ∧ (-8 ≤ d.2 ∧ d.2 ≤ 8)) → ((-8 ≤ (pAt d w t).1 ∧ (pAt d w t).1 ≤ 8) ∧ (-8 ≤ (pAt d w t).2 ∧ (pAt d w t).2 ≤ 8))
  | [], d, t, _, h => h
  | g :: w, d, t, hg, h => by
    rw [pAt_cons]
    refine pAt_bound w _ t (fun x hx => hg x (by simp [hx])) ?_
    split
    · exact gOk_drift (hg g (by simp))
    · exact h
theorem pAt_turn (n : Int) : ∀ (w : List Gu) (d : Int × Int) (t : Int), pAt (pTurn4 n d) (w.map (gTurn n)) t = pTurn4 n (pAt d w t)
  | [], _, _ => rfl
  | g :: w, d, t => by
    rw [List.map_cons, pAt_cons, pAt_cons, ← pAt_turn n w]
    by_cases h : g.f0 ≤ t
    · rw [if_pos h, if_pos (show (gTurn n g).f0 ≤ t from h)]; rfl
    · rw [if_neg h, if_neg (show ¬ (gTurn n g).f0 ≤ t from h)]
theorem pTurn4_zero (n : Int) : pTurn4 n (0, 0) = (0, 0) := by
  rcases pTurn4_cases n with ⟨_, e⟩ | ⟨_, e⟩ | ⟨_, e⟩ | ⟨_, e⟩
  all_goals (rw [e 0 0 (by omega)]; try simp)
theorem pOverN_bound {w : List Gu} (hg : ∀ g ∈ w, gOk g = true) : ∀ (n : Nat) (t : Int) (s : Int × Int) (B : Int), 0 ≤ B → B + 8 * n ≤ 50000 → ((-B ≤ s.1 ∧ s.1 ≤ B) ∧ (-B ≤ s.2 ∧ s.2 ≤ B)) →
    ((-(B + 8 * n) ≤ (pOverN w n t s).1 ∧ (pOverN w n t s).1 ≤ B + 8 * n) ∧ (-(B + 8 * n) ≤ (pOverN w n t s).2 ∧ (pOverN w n t s).2 ≤ B + 8 * n))
  | 0, t, s, B, _, _, h => by simpa [pOverN] using h
  | n + 1, t, s, B, h0, hB, h => by
    have hd := pAt_bound w (0, 0) t hg (by simp)
    have := pOverN_bound hg n (t + 1) (wrap64 (s.1 + (pAt (0, 0) w t).1), wrap64 (s.2 + (pAt (0, 0) w t).2)) (B + 8) (by omega) (by omega) (by simp only; unfold wrap64; omega)
    rw [pOverN]
    omega
theorem pOverN_turn (m : Int) {w : List Gu} (hg : ∀ g ∈ w, gOk g = true) : ∀ (n : Nat) (t : Int) (s : Int × Int) (B : Int), 0 ≤ B → B + 8 * n ≤ 50000 → ((-B ≤ s.1 ∧ s.1 ≤ B) ∧ (-B ≤ s.2 ∧ s.2 ≤ B)) →
    pOverN (w.map (gTurn m)) n t (pTurn4 m s) = pTurn4 m (pOverN w n t s)
  | 0, _, _, _, _, _, _ => rfl
  | n + 1, t, s, B, h0, hB, h => by
    have hd := pAt_bound w (0, 0) t hg (by simp)
    have e := pAt_turn m w (0, 0) t
    rw [pTurn4_zero] at e
    have ih := pOverN_turn m hg n (t + 1) (wrap64 (s.1 + (pAt (0, 0) w t).1), wrap64 (s.2 + (pAt (0, 0) w t).2)) (B + 8) (by omega) (by omega) (by simp only; unfold wrap64; omega)
    rw [pOverN, pOverN, ← ih, e]
    congr 1
    rw [show wrap64 (s.1 + (pAt (0, 0) w t).1) = s.1 + (pAt (0, 0) w t).1 by unfold wrap64; omega, show wrap64 (s.2 + (pAt (0, 0) w t).2) = s.2 + (pAt (0, 0) w t).2 by unfold wrap64; omega]
    rw [pTurn4_add m (by omega) (by omega)]
    have b1 := pTurn4_bound m (x := s.1) (y := s.2) (B := 50000) (by omega) (by omega)
    have b2 := pTurn4_bound m (x := (pAt (0, 0) w t).1) (y := (pAt (0, 0) w t).2) (B := 8) (by omega) hd
    simp only [Prod.mk.injEq]
    exact ⟨by rw [show pTurn4 m s = pTurn4 m (s.1, s.2) from rfl, show pTurn4 m (pAt (0, 0) w t) = pTurn4 m ((pAt (0, 0) w t).1, (pAt (0, 0) w t).2) from rfl]; unfold wrap64; omega, by rw [show pTurn4 m s = pTurn4 m (s.1, s.2) from rfl, show pTurn4 m (pAt (0, 0) w t) = pTurn4 m ((pAt (0, 0) w t).1, (pAt (0, 0) w t).2) from rfl]; unfold wrap64; omega⟩
theorem FnTurnedWind : laws_FnTurnedWind.Pure := by
  intro c _ _ _
  refine Ev.rounds ?_
  simp only [laws_FnTurnedWind.f, laws_big_eq, Option.bind_some]
  by_cases hc : (c.length : Int) > 4096
  · simp only [decide_eq_true hc, if_true]; exact Ev.now _
  · simp only [decide_eq_false hc, Bool.false_eq_true, if_false]
    obtain ⟨w, a, b, e, hw, ha0, hab, hb, hd⟩ := DrawWind_ok c (by omega)
    obtain ⟨w', n, e'⟩ := DrawTurnWind_ok c (by omega)
    have hwi := (pWind_iff w).1 hw
    have hwl : w.length < 1099511627776 := by omega
    have hx := pWind_turn n hw
    have hxl : (w.map (gTurn n)).length < 1099511627776 := by simpa using hwl
    have hT : pTurnWind w n = w.map (gTurn n) := by rw [pTurnWind, if_pos hw]
    have ho : pOver w a b = ((pOverN w (b - a).toNat a (0, 0)).1, (pOverN w (b - a).toNat a (0, 0)).2, true) := by rw [pOver, if_pos ⟨hw, ha0, hab, by omega⟩]
    have ho2 : pOver (w.map (gTurn n)) a b = ((pTurn4 n (pOverN w (b - a).toNat a (0, 0))).1, (pTurn4 n (pOverN w (b - a).toNat a (0, 0))).2, true) := by
      rw [pOver, if_pos ⟨hx, ha0, hab, by omega⟩]
      have := pOverN_turn n hwi.1.2 (b - a).toNat a (0, 0) 0 (by omega) (by omega) (by simp)
      rw [pTurn4_zero] at this
      rw [this]
    have hbd := pOverN_bound hwi.1.2 (b - a).toNat a (0, 0) 0 (by omega) (by omega) (by simp)
    generalize hp : pOverN w (b - a).toNat a (0, 0) = p at ho ho2 hbd
    obtain ⟨px, py⟩ := p
    simp only at ho ho2 hbd
    have e1 := impl_DriftOver_ev w a b hwl
    have e2 := impl_DriftOver_ev (w.map (gTurn n)) a b hxl
    have e3 := impl_TurnWind_ev w n hwl
    have e4 := impl_TurnWind_ev (w.map (gTurn n)) (wrap64 (4 - Int.tmod n 4)) hxl
    rw [ho] at e1
    rw [ho2] at e2
    rw [hT] at e3
    have hback : pTurnWind (w.map (gTurn n)) (wrap64 (4 - Int.tmod n 4)) = w := by
      rw [pTurnWind, if_pos hx, List.map_map]
      conv => rhs; rw [← List.map_id w]
      refine List.map_congr_left (fun g hg => ?_)
      have h1 := gOk_drift (hwi.1.2 g hg)
      have h2 := pTurn4_back n (wrap64 (4 - Int.tmod n 4)) (back_turns n) (x := g.f1.f0) (y := g.f1.f1) (by omega)
      show gTurn _ (gTurn n g) = g
      simp only [gTurn, h2]
    rw [hback] at e4
    refine Ev.bind e ?_
    refine Ev.bind e' ?_
    refine Ev.bind e1 ?_
    refine Ev.bind e3 ?_
    refine Ev.bind e2 ?_
    simp only [if_true]
    refine Ev.bind (impl_IsWind_ev _ hxl) ?_
    simp only [hx, if_true]
    refine Ev.bind (impl_TurnPlace_ev n (by simp [pPlace]; omega)) ?_
    simp only [beq_self_eq_true, Bool.and_self, if_true]
    refine Ev.bind e4 ?_
    exact Ev.bind (laws_winds_rfl w hwl) (Ev.now _)

end Go.Proofs.Ytcfkaoibghhahaa.Pure
