/- The law FnExactRoseBox comes to true for every input: The program's RoseBox returns what the reference's returns, for all arguments. No condition beside the statement's own. -/
import Derived.Test.YtcfkaoibghhahaaStFnExactRoseBox
namespace Go.Proofs.Ytcfkaoibghhahaa.Pure
open Go Go.RowKit Go.Proofs.Ytcfkaoibghhahaa.MFnExactRoseBox Go.Proofs.YtcfkaoibghhahaaW.PrintWords Go.Proofs.YtcfkaoibghhahaaW.PrintLast Go.Proofs.YtcfkaoibghhahaaW.PrintMore
set_option linter.unusedVariables false
set_option linter.unusedSimpArgs false

theorem ev_succ {α : Type} {g : Nat → Option α} {r : α} (h : Ev (fun k => g (k + 1)) r) : Ev g r := Ev.step (fun _ => rfl) h
theorem ev_ite {α : Type} {c : Prop} [Decidable c] {f g : Nat → Option α} {r : α} (h : c → Ev f r) (h' : ¬ c → Ev g r) : Ev (fun k => if c then f k else g k) r := by
  by_cases hc : c
  · simp only [if_pos hc]; exact h hc
  · simp only [if_neg hc]; exact h' hc
theorem ix {α : Type} {l pre t : List α} {a : α} (h : l = pre ++ a :: t) (hl : l.length < 4611686018427387904) :
    (pre.length : Int) < (l.length : Int) ∧ (∀ d, l.getD pre.length d = a) ∧ wrap64 ((pre.length : Int) + 1) = ((pre ++ [a]).length : Int) ∧ l = (pre ++ [a]) ++ t := by
  subst h
  simp only [List.length_append, List.length_cons, List.length_nil] at *
  refine ⟨by omega, fun d => by simp [List.getD], by unfold wrap64; omega, by simp⟩
theorem ixn {α : Type} {l pre : List α} (h : l = pre ++ []) : ¬ (pre.length : Int) < (l.length : Int) := by
  subst h; simp
theorem nn (n : Nat) : (0 : Int) ≤ (n : Int) := Int.natCast_nonneg n
theorem w64 {n : Int} (h0 : -9223372036854775808 ≤ n) (h1 : n < 9223372036854775808) : wrap64 n = n := by unfold wrap64; omega
theorem mn_min (a b : Int) : mn a b = min a b := by unfold mn; omega
theorem mx_max (a b : Int) : mx a b = max a b := by unfold mx; omega
theorem set_app {α : Type} (pre t : List α) (a b : α) : (pre ++ a :: t).set pre.length b = pre ++ b :: t := by simp
theorem app1 {α : Type} (pre : List α) (a : α) (t : List α) : pre ++ a :: t = (pre ++ [a]) ++ t := by simp

/-- The numbers from c on, n of them. -/
def upto : Nat → Int → List Int
  | 0, _ => []
  | n + 1, c => c :: upto n (c + 1)
theorem upto_length : ∀ n c, (upto n c).length = n
  | 0, _ => rfl
  | n + 1, c => by simp [upto, upto_length n]

theorem spec_l1In_eq (a b c : Int) : spec_l1In.f a b c = some (decide (b ≤ a) && decide (a ≤ c)) := by
  unfold spec_l1In.f; split <;> simp <;> omega
theorem impl_isWithin_eq (a b c : Int) : impl_isWithin.f a b c = some (decide (b ≤ a) && decide (a ≤ c)) := by
  unfold impl_isWithin.f; split <;> simp <;> omega
theorem spec_l1Min_eq (a b : Int) : spec_l1Min.f a b = some (min a b) := by
  unfold spec_l1Min.f; split <;> simp <;> omega

abbrev Pl := S25
abbrev LPl := S71
theorem ix2 {α : Type} {l pre t : List α} {p a : α} (h : l = (pre ++ [p]) ++ a :: t) (hl : l.length < 4611686018427387904) :
    (((pre ++ [p]).length : Int)) > 0 ∧ wrap64 (((pre ++ [p]).length : Int) - 1) = (pre.length : Int) ∧ (∀ d, l.getD pre.length d = p) ∧ (pre.length : Int) < (l.length : Int) := by
  subst h
  simp only [List.length_append, List.length_cons, List.length_nil] at *
  refine ⟨by omega, by unfold wrap64; omega, fun d => by simp [List.getD], by omega⟩
theorem ev_eq {α : Type} {f g : Nat → Option α} {r : α} (h : f = g) (k : Ev g r) : Ev f r := h ▸ k
def drB (a b : Int) : Bool := (decide (-8 ≤ a) && decide (a ≤ 8)) && (decide (-8 ≤ b) && decide (b ≤ 8))
theorem spec_l4Drift_eq (a b : Int) : spec_l4Drift.f a b = some (drB a b) := by
  simp only [spec_l4Drift.f, spec_l1In_eq, Option.bind_some, drB]
  cases (decide (-8 ≤ a) && decide (a ≤ 8)) <;> simp
def drB' (a b : Int) : Bool := (decide (-8 ≤ a) && decide (a ≤ 8)) && (decide (-8 ≤ b) && decide (b ≤ 8))
theorem impl_isDrift_eq (a b : Int) : impl_isDrift.f a b = some (drB' a b) := by
  simp only [impl_isDrift.f, impl_isWithin_eq, Option.bind_some, drB']
  cases (decide (-8 ≤ a) && decide (a ≤ 8)) <;> simp
theorem laws_toPlace_eq (a b : Int) : laws_toPlace.f a b = some (a, b) := rfl
def cvP (g : LPl) : Pl := ⟨g.f0, g.f1⟩
theorem laws_toPlaceS_l0 (l : List LPl) (hl : l.length < 1099511627776) : ∀ (suf pre : List LPl), l = pre ++ suf →
    Ev (fun k => laws_toPlaceS.l0 k l (pre.map cvP ++ List.replicate suf.length z25) (pre.length : Int)) (l.map cvP) := by
  intro suf
  induction suf with
  | nil =>
    intro pre h
    refine ev_succ ?_
    simp only [laws_toPlaceS.l0, if_neg (ixn h)]
    simpa [h] using Ev.now (l.map cvP)
  | cons a t ih =>
    intro pre h
    obtain ⟨h1, h2, h3, h4⟩ := ix h (by omega)
    refine ev_succ ?_
    have h5 : (pre.length : Int) < ((pre.map cvP ++ List.replicate (a :: t).length z25).length : Int) := by simp; omega
    simp only [laws_toPlaceS.l0, if_pos h1, if_pos (nn _), laws_toPlace_eq, Option.bind_some, if_pos h5, Int.toNat_natCast, rd_T71, h2, h3]
    have := ih (pre ++ [a]) h4
    have hp : pre.length = (pre.map cvP).length := by simp
    rw [List.length_cons, List.replicate_succ, hp, set_app]
    simpa [cvP] using this
theorem laws_toPlaceS_ev (l : List LPl) (hl : l.length < 1099511627776) : Ev (fun k => laws_toPlaceS.f k l) (l.map cvP) := by
  have := laws_toPlaceS_l0 l hl l [] rfl
  simp only [laws_toPlaceS.f, if_pos (nn _), Int.toNat_natCast, if_pos (show l.length ≤ 17592186044416 by omega)]
  simpa using this
theorem laws_eqPlace_rfl (a b : Int) : laws_eqPlace.f a b a b = some true := by simp [laws_eqPlace.f]
theorem laws_eqPlaceS_l0 (x : List Pl) (hl : x.length < 1099511627776) : ∀ (d i : Nat), i + d = x.length → Ev (fun k => laws_eqPlaceS.l0 k x x (i : Int)) true := by
  intro d
  induction d with
  | zero =>
    intro i h
    refine ev_succ ?_
    simp only [laws_eqPlaceS.l0, if_neg (show ¬ ((i : Int) < (x.length : Int)) by omega)]
    exact Ev.now _
  | succ d ih =>
    intro i h
    refine ev_succ ?_
    simp only [laws_eqPlaceS.l0, if_pos (show ((i : Int) < (x.length : Int)) by omega), if_pos (nn _), laws_eqPlace_rfl, Option.bind_some, if_true]
    rw [show wrap64 ((i : Int) + 1) = ((i + 1 : Nat) : Int) by unfold wrap64; omega]
    exact ih (i + 1) (by omega)
theorem laws_eqPlaceS_rfl (x : List Pl) (hl : x.length < 1099511627776) : Ev (fun k => laws_eqPlaceS.f k x x) true := by
  simp only [laws_eqPlaceS.f, if_true]
  exact laws_eqPlaceS_l0 x hl x.length 0 (by omega)
theorem laws_szPlaceS_eq (l : List LPl) (n : Int) (hn : 0 ≤ n) (hn2 : n ≤ 1048576) (hl : l.length ≤ maxLen) : laws_szPlaceS.f l n = some (if n - (l.length : Int) < 0 then -1 else n - (l.length : Int)) := by
  have : (l.length : Int) ≤ 9223372036854775807 := by have : maxLen = 9223372036854775807 := rfl; omega
  unfold laws_szPlaceS.f
  rw [show wrap64 (n - (l.length : Int)) = n - (l.length : Int) by unfold wrap64; omega]
  split <;> rfl
/-- The order of places. -/
def pCmp (a b c d : Int) : Int := if a < c then -1 else if a = c then (if b < d then -1 else if b = d then 0 else 1) else 1
def rRest.gDr2 (a b : Int) : Bool := (decide (-8 ≤ a) && decide (a ≤ 8)) && (decide (-8 ≤ b) && decide (b ≤ 8))
def rRest : Pl → List Pl → Bool
  | _, [] => true
  | p, q :: t => rRest.gDr2 q.f0 q.f1 && (decide (pCmp p.f0 p.f1 q.f0 q.f1 < 0) && rRest q t)
def rAll : List Pl → Bool
  | [] => true
  | q :: t => rRest.gDr2 q.f0 q.f1 && rRest q t
/-- IsRose -/
def pRose (l : List Pl) : Bool := rAll l && (decide (1 ≤ (l.length : Int)) && decide ((l.length : Int) ≤ 4))
theorem pRose_len {l : List Pl} (h : pRose l = true) : 1 ≤ l.length ∧ l.length ≤ 4 := by
  simp only [pRose, Bool.and_eq_true, decide_eq_true_eq] at h; omega
theorem spec_ComparePlaces_ev (a b c d : Int) : Ev (fun k => spec_ComparePlaces.f k a b c d) (pCmp a b c d) := by
  unfold spec_ComparePlaces.f pCmp
  refine ev_ite (fun h => ?_) (fun h => ?_)
  · rw [if_pos h, decide_eq_true h]
    refine ev_succ ?_
    simp only [spec_ComparePlaces.j0, if_true]; exact Ev.now _
  · rw [if_neg h]
    refine ev_ite (fun h1 => ?_) (fun h1 => ?_)
    · rw [if_pos h1]
      refine ev_succ ?_
      by_cases h2 : b < d
      · simp only [spec_ComparePlaces.j0, decide_eq_true h2, if_true, if_pos h2]; exact Ev.now _
      · simp only [spec_ComparePlaces.j0, decide_eq_false h2, Bool.false_eq_true, if_false, if_neg h2, h1, beq_self_eq_true, Bool.true_and, beq_iff_eq]
        refine ev_ite (fun h3 => ?_) (fun h3 => ?_)
        · rw [if_pos h3]; exact Ev.now _
        · rw [if_neg h3]; exact Ev.now _
    · rw [if_neg h1]
      refine ev_succ ?_
      simp only [spec_ComparePlaces.j0, Bool.false_eq_true, if_false, beq_eq_false_iff_ne.2 h1, Bool.false_and]; exact Ev.now _
def pCmpI (a b : Int) : Int := if a < b then -1 else if a = b then 0 else 1
theorem cmp_Compare_int_eq (a b : Int) : cmp_Compare_int.f a b = some (pCmpI a b) := by
  simp only [cmp_Compare_int.f, cmp_isNaN_int.f, bne_self_eq_false, Option.bind_some, Bool.false_eq_true, if_false, pCmpI]
  repeat' split
  all_goals first | rfl | omega
theorem cmp_Or_int_ev (a b : Int) : Ev (fun k => cmp_Or_int.f k [a, b]) (if a = 0 then b else a) := by
  unfold cmp_Or_int.f
  refine ev_succ ?_
  simp only [cmp_Or_int.l0, List.length_cons, List.length_nil, if_pos (show ((0 : Int) < ((0 + 1 + 1 : Nat) : Int)) by omega), if_pos (show (0 : Int) ≤ 0 by omega), rd, Int.toNat_zero, List.getD_cons_zero]
  refine ev_ite (fun h => ?_) (fun h => ?_)
  · rw [if_pos h, show wrap64 (0 + 1) = 1 by unfold wrap64; omega]
    refine ev_succ ?_
    simp only [cmp_Or_int.l0, List.length_cons, List.length_nil, if_pos (show ((1 : Int) < ((0 + 1 + 1 : Nat) : Int)) by omega), if_pos (show (0 : Int) ≤ 1 by omega), rd, show ((1 : Int).toNat) = 1 from rfl, List.getD_cons_succ, List.getD_cons_zero]
    refine ev_ite (fun h2 => ?_) (fun h2 => Ev.now _)
    rw [show wrap64 (1 + 1) = 2 by unfold wrap64; omega, h2]
    refine ev_succ ?_
    simp only [cmp_Or_int.l0, List.length_cons, List.length_nil, if_neg (show ¬ ((2 : Int) < ((0 + 1 + 1 : Nat) : Int)) by omega)]
    exact Ev.now _
  · rw [if_neg h]; exact Ev.now _
theorem impl_ComparePlaces_ev (a b c d : Int) : Ev (fun k => impl_ComparePlaces.f k a b c d) (pCmp a b c d) := by
  simp only [impl_ComparePlaces.f, cmp_Compare_int_eq, Option.bind_some]
  have := cmp_Or_int_ev (pCmpI a c) (pCmpI b d)
  have e : (if pCmpI a c = 0 then pCmpI b d else pCmpI a c) = pCmp a b c d := by
    unfold pCmpI pCmp
    by_cases h1 : a < c
    · simp [h1]
    · by_cases h2 : a = c
      · simp [h2]
      · simp [h1, h2]
  rw [e] at this
  exact Ev.bind this (Ev.now _)
theorem spec_IsRose_l0 (l : List Pl) (hl : l.length < 1099511627776) : ∀ (suf pre : List Pl) (p : Pl), l = (pre ++ [p]) ++ suf →
    Ev (fun k => spec_IsRose.l0 k l l (l.length : Int) ((pre ++ [p]).length : Int)) (rRest p suf && (decide (1 ≤ (l.length : Int)) && decide ((l.length : Int) ≤ 4))) := by
  intro suf
  induction suf with
  | nil =>
    intro pre p h
    refine ev_succ ?_
    have h1 : 1 ≤ (l.length : Int) := by rw [h]; simp; omega
    simp only [spec_IsRose.l0, if_neg (ixn h), rRest, Bool.true_and, if_pos (show (l.length : Int) ≥ 1 by omega), decide_eq_true h1]
    exact Ev.now _
  | cons a t ih =>
    intro pre p h
    obtain ⟨h1, h2, h3, h4⟩ := ix h (by omega)
    obtain ⟨h5, h6, h7, h8⟩ := ix2 h (by omega)
    refine ev_succ ?_
    simp only [spec_IsRose.l0, if_pos h1, if_pos (nn _), Int.toNat_natCast, rd_T25, h2, h3, h6, h7, spec_l4Drift_eq, Option.bind_some, if_pos h5, if_pos h8]
    rw [rRest]
    change Ev (fun k => if rRest.gDr2 a.f0 a.f1 = true then _ else _) _
    refine ev_ite (fun c1 => ?_) (fun c1 => ?_)
    · rw [c1, Bool.true_and]
      refine Ev.bind (spec_ComparePlaces_ev _ _ _ _) ?_
      refine ev_ite (fun c3 => ?_) (fun c3 => ?_)
      · rw [decide_eq_false (by omega), Bool.false_and, Bool.false_and]; exact Ev.now _
      · rw [decide_eq_true (by omega), Bool.true_and]; exact ih (pre ++ [p]) a h4
    · rw [Bool.eq_false_iff.2 c1, Bool.false_and, Bool.false_and]; exact Ev.now _
theorem spec_IsRose_ev (l : List Pl) (hl : l.length < 1099511627776) : Ev (fun k => spec_IsRose.f k l) (pRose l) := by
  unfold spec_IsRose.f pRose
  refine ev_succ ?_
  cases l with
  | nil =>
    simp only [spec_IsRose.l0]
    exact Ev.now _
  | cons a t =>
    obtain ⟨h1, h2, h3, h4⟩ := ix (l := a :: t) (pre := []) rfl (by omega)
    simp only [List.length_nil, Int.natCast_zero] at h1 h2 h3
    simp only [spec_IsRose.l0, if_pos h1, if_pos (show (0 : Int) ≤ 0 by omega), Int.toNat_zero, rd_T25, h2, h3, spec_l4Drift_eq, Option.bind_some, if_neg (show ¬ ((0 : Int) > 0) by omega)]
    rw [rAll]
    change Ev (fun k => if rRest.gDr2 a.f0 a.f1 = true then _ else _) _
    refine ev_ite (fun c1 => ?_) (fun c1 => ?_)
    · rw [c1, Bool.true_and]
      exact spec_IsRose_l0 (a :: t) hl t [] a rfl
    · rw [Bool.eq_false_iff.2 c1, Bool.false_and, Bool.false_and]; exact Ev.now _
theorem impl_IsRose_l0 (l : List Pl) (hl : l.length < 1099511627776) : ∀ (suf pre : List Pl) (p : Pl), l = (pre ++ [p]) ++ suf →
    Ev (fun k => impl_IsRose.l0 k l l (l.length : Int) ((pre ++ [p]).length : Int)) (rRest p suf && (decide (1 ≤ (l.length : Int)) && decide ((l.length : Int) ≤ 4))) := by
  intro suf
  induction suf with
  | nil =>
    intro pre p h
    refine ev_succ ?_
    simp only [impl_IsRose.l0, if_neg (ixn h), rRest, Bool.true_and, impl_isWithin_eq, Option.bind_some]
    exact Ev.now _
  | cons a t ih =>
    intro pre p h
    obtain ⟨h1, h2, h3, h4⟩ := ix h (by omega)
    obtain ⟨h5, h6, h7, h8⟩ := ix2 h (by omega)
    refine ev_succ ?_
    simp only [impl_IsRose.l0, if_pos h1, if_pos (nn _), Int.toNat_natCast, rd_T25, h2, h3, h6, h7, impl_isDrift_eq, Option.bind_some, if_pos h5, if_pos h8]
    rw [rRest]
    change Ev (fun k => if rRest.gDr2 a.f0 a.f1 = true then _ else _) _
    refine ev_ite (fun c1 => ?_) (fun c1 => ?_)
    · rw [c1, Bool.true_and]
      refine Ev.bind (impl_ComparePlaces_ev _ _ _ _) ?_
      refine ev_ite (fun c3 => ?_) (fun c3 => ?_)
      · rw [decide_eq_false (by omega), Bool.false_and, Bool.false_and]; exact Ev.now _
      · rw [decide_eq_true (by omega), Bool.true_and]; exact ih (pre ++ [p]) a h4
    · rw [Bool.eq_false_iff.2 c1, Bool.false_and, Bool.false_and]; exact Ev.now _
theorem impl_IsRose_ev (l : List Pl) (hl : l.length < 1099511627776) : Ev (fun k => impl_IsRose.f k l) (pRose l) := by
  unfold impl_IsRose.f pRose
  refine ev_succ ?_
  cases l with
  | nil =>
    simp only [impl_IsRose.l0, impl_isWithin_eq, Option.bind_some]
    exact Ev.now _
  | cons a t =>
    obtain ⟨h1, h2, h3, h4⟩ := ix (l := a :: t) (pre := []) rfl (by omega)
    simp only [List.length_nil, Int.natCast_zero] at h1 h2 h3
    simp only [impl_IsRose.l0, if_pos h1, if_pos (show (0 : Int) ≤ 0 by omega), Int.toNat_zero, rd_T25, h2, h3, impl_isDrift_eq, Option.bind_some, if_neg (show ¬ ((0 : Int) > 0) by omega)]
    rw [rAll]
    change Ev (fun k => if rRest.gDr2 a.f0 a.f1 = true then _ else _) _
    refine ev_ite (fun c1 => ?_) (fun c1 => ?_)
    · rw [c1, Bool.true_and]
      exact impl_IsRose_l0 (a :: t) hl t [] a rfl
    · rw [Bool.eq_false_iff.2 c1, Bool.false_and, Bool.false_and]; exact Ev.now _
def pMeas (x : Int) : Bool := decide (-4096 ≤ x) && decide (x ≤ 4096)
theorem spec_IsMeasure_eq (x : Int) : spec_IsMeasure.f x = some (pMeas x) := by
  unfold spec_IsMeasure.f pMeas; split <;> simp <;> omega
def pMeas' (x : Int) : Bool := decide (-4096 ≤ x) && decide (x ≤ 4096)
theorem impl_IsMeasure_eq (x : Int) : impl_IsMeasure.f x = some (pMeas' x) := by
  simp only [impl_IsMeasure.f, impl_isWithin_eq, Option.bind_some, pMeas']
def pPlace (x y : Int) : Bool := (decide (-4096 ≤ x) && decide (x ≤ 4096)) && (decide (-4096 ≤ y) && decide (y ≤ 4096))
theorem spec_IsPlace_eq (x y : Int) : spec_IsPlace.f x y = some (pPlace x y) := by
  simp only [spec_IsPlace.f, spec_IsMeasure_eq, Option.bind_some, pPlace, pMeas]
  cases (decide (-4096 ≤ x) && decide (x ≤ 4096)) <;> simp
theorem impl_IsPlace_eq (x y : Int) : impl_IsPlace.f x y = some (pPlace x y) := by
  simp only [impl_IsPlace.f, impl_IsMeasure_eq, Option.bind_some, pPlace, pMeas']
  cases (decide (-4096 ≤ x) && decide (x ≤ 4096)) <;> simp
theorem spec_l1Max_eq (a b : Int) : spec_l1Max.f a b = some (max a b) := by
  unfold spec_l1Max.f; split <;> simp <;> omega
def boxGo : List Pl → Int → Int → Int → Int → Int × Int × Int × Int × Bool
  | [], a, b, c, d => (a, b, c, d, true)
  | p :: t, a, b, c, d => if pPlace p.f0 p.f1 = true then boxGo t (min a p.f0) (min b p.f1) (max c p.f0) (max d p.f1) else (0, 0, 0, 0, false)
/-- BoxOf -/
def pBox : List Pl → Int × Int × Int × Int × Bool
  | [] => (0, 0, 0, 0, false)
  | p :: t => boxGo (p :: t) p.f0 p.f1 p.f0 p.f1
theorem spec_BoxOf_l0 (l : List Pl) (hl : l.length < 1099511627776) : ∀ (suf pre : List Pl) (a b c d : Int), l = pre ++ suf → 0 < pre.length →
    Ev (fun k => spec_BoxOf.l0 k l l (l.length : Int) (pre.length : Int) a b c d) (boxGo suf a b c d) := by
  intro suf
  induction suf with
  | nil =>
    intro pre a b c d h h0
    have h1 : (l.length : Int) > 0 := by rw [h]; simp; omega
    refine ev_succ ?_
    simp only [spec_BoxOf.l0, if_neg (ixn h), boxGo, decide_eq_true h1]
    exact Ev.now _
  | cons p t ih =>
    intro pre a b c d h h0
    obtain ⟨h1, h2, h3, h4⟩ := ix h (by omega)
    refine ev_succ ?_
    simp only [spec_BoxOf.l0, if_pos h1, if_pos (nn _), Int.toNat_natCast, rd_T25, h2, h3, if_neg (show ¬ ((pre.length : Int) = 0) by omega), spec_IsPlace_eq, Option.bind_some]
    rw [boxGo]
    refine ev_ite (fun e => ?_) (fun e => ?_)
    · rw [if_pos e]
      refine ev_succ ?_
      simp only [spec_BoxOf.j1, spec_l1Min_eq, spec_l1Max_eq, Option.bind_some, h3]
      exact ih _ _ _ _ _ h4 (by simp)
    · rw [if_neg e]; exact Ev.now _
theorem spec_BoxOf_ev (l : List Pl) (hl : l.length < 1099511627776) : Ev (fun k => spec_BoxOf.f k l) (pBox l) := by
  unfold spec_BoxOf.f
  refine ev_succ ?_
  cases l with
  | nil =>
    simp only [spec_BoxOf.l0]
    exact Ev.now _
  | cons p t =>
    obtain ⟨h1, h2, h3, h4⟩ := ix (l := p :: t) (pre := []) rfl (by omega)
    simp only [List.length_nil, Int.natCast_zero] at h1 h2 h3
    simp only [spec_BoxOf.l0, if_pos h1, if_pos (show (0 : Int) ≤ 0 by omega), Int.toNat_zero, rd_T25, h2, spec_IsPlace_eq, Option.bind_some, if_true]
    rw [pBox, boxGo]
    refine ev_ite (fun e => ?_) (fun e => ?_)
    · rw [if_pos e]
      refine ev_succ ?_
      simp only [spec_BoxOf.j1, spec_l1Min_eq, spec_l1Max_eq, Option.bind_some, h3]
      exact spec_BoxOf_l0 (p :: t) hl t [p] _ _ _ _ rfl (by simp)
    · rw [if_neg e]; exact Ev.now _
theorem impl_BoxOf_l0 (l : List Pl) (hl : l.length < 1099511627776) : ∀ (suf pre : List Pl) (a b c d : Int), l = pre ++ suf →
    Ev (fun k => impl_BoxOf.l0 k l (l.length : Int) (pre.length : Int) a b c d) (boxGo suf a b c d) := by
  intro suf
  induction suf with
  | nil =>
    intro pre a b c d h
    refine ev_succ ?_
    simp only [impl_BoxOf.l0, if_neg (ixn h), boxGo]
    exact Ev.now _
  | cons p t ih =>
    intro pre a b c d h
    obtain ⟨h1, h2, h3, h4⟩ := ix h (by omega)
    refine ev_succ ?_
    simp only [impl_BoxOf.l0, if_pos h1, if_pos (nn _), Int.toNat_natCast, rd_T25, h2, h3, impl_IsPlace_eq, Option.bind_some, mn_min, mx_max]
    rw [boxGo]
    refine ev_ite (fun e => ?_) (fun e => ?_)
    · rw [if_pos e]; exact ih _ _ _ _ _ h4
    · rw [if_neg e]; exact Ev.now _
theorem impl_BoxOf_ev (l : List Pl) (hl : l.length < 1099511627776) : Ev (fun k => impl_BoxOf.f k l) (pBox l) := by
  unfold impl_BoxOf.f
  cases l with
  | nil => simp only [List.length_nil]; exact Ev.now _
  | cons p t =>
    obtain ⟨h1, h2, h3, h4⟩ := ix (l := p :: t) (pre := []) rfl (by omega)
    simp only [List.length_nil, Int.natCast_zero] at h1 h2 h3
    simp only [if_pos h1, if_neg (show ¬ (((p :: t).length : Int) = 0) by omega), rd_T25, Int.toNat_zero, h2]
    exact impl_BoxOf_l0 (p :: t) hl (p :: t) [] _ _ _ _ rfl
/-- RoseBox -/
def pRoseBox (l : List Pl) (n : Int) : Int × Int × Int × Int × Bool :=
  if pRose l = true then if 0 ≤ n ∧ n ≤ 128 then (wrap64 (n * (pBox l).1), wrap64 (n * (pBox l).2.1), wrap64 (n * (pBox l).2.2.1), wrap64 (n * (pBox l).2.2.2.1), true) else (0, 0, 0, 0, false) else (0, 0, 0, 0, false)
theorem spec_RoseBox_ev (l : List Pl) (n : Int) (hl : l.length < 1099511627776) : Ev (fun k => spec_RoseBox.f k l n) (pRoseBox l n) := by
  unfold spec_RoseBox.f pRoseBox
  refine Ev.bind (spec_BoxOf_ev l hl) ?_
  refine Ev.bind (spec_IsRose_ev l hl) ?_
  refine ev_ite (fun e => ?_) (fun e => ?_)
  · rw [if_pos e]
    refine ev_ite (fun h0 => ?_) (fun h0 => ?_)
    · rw [if_neg (by omega)]; exact Ev.now _
    · refine ev_ite (fun h1 => ?_) (fun h1 => ?_)
      · rw [if_neg (by omega)]; exact Ev.now _
      · rw [if_pos (by omega)]; exact Ev.now _
  · rw [if_neg e]; exact Ev.now _
theorem impl_RoseBox_ev (l : List Pl) (n : Int) (hl : l.length < 1099511627776) : Ev (fun k => impl_RoseBox.f k l n) (pRoseBox l n) := by
  unfold impl_RoseBox.f pRoseBox
  refine Ev.bind (impl_IsRose_ev l hl) ?_
  refine ev_ite (fun e => ?_) (fun e => ?_)
  · rw [if_pos e]
    simp only [impl_isWithin_eq, Option.bind_some, Bool.and_eq_true, decide_eq_true_eq]
    refine ev_ite (fun h0 => ?_) (fun h0 => ?_)
    · rw [if_pos h0]; exact Ev.bind (impl_BoxOf_ev l hl) (Ev.now _)
    · rw [if_neg h0]; exact Ev.now _
  · rw [if_neg e]; exact Ev.now _
theorem laws_eqBox_rfl (a b c d : Int) : laws_eqBox.f a b c d a b c d = some true := by simp [laws_eqBox.f, laws_eqPlace_rfl]
theorem FnExactRoseBox : laws_FnExactRoseBox.Pure := by
  intro l n hm _ _ _
  refine Ev.rounds ?_
  simp only [laws_FnExactRoseBox.f, laws_szPlaceS_eq l 1048576 (by omega) (by omega) hm, Option.bind_some]
  refine ev_ite (fun _ => Ev.now _) (fun h => ?_)
  have hl : l.length < 1099511627776 := by
    refine Decidable.byContradiction fun hn => h ?_
    rw [if_pos (by omega)]; omega
  have hl' : (l.map cvP).length < 1099511627776 := by simpa using hl
  refine Ev.bind (laws_toPlaceS_ev l hl) ?_
  refine Ev.bind (spec_RoseBox_ev _ n hl') ?_
  refine Ev.bind (laws_toPlaceS_ev l hl) ?_
  refine Ev.bind (impl_RoseBox_ev _ n hl') ?_
  simp only [laws_eqBox_rfl, Option.bind_some, if_true, bne_self_eq_false]
  refine ev_succ ?_
  simp only [laws_FnExactRoseBox.j0, Bool.false_eq_true, if_false]
  refine Ev.bind (laws_toPlaceS_ev l hl) ?_
  refine Ev.bind (laws_eqPlaceS_rfl _ hl') ?_
  exact Ev.now _

end Go.Proofs.Ytcfkaoibghhahaa.Pure
