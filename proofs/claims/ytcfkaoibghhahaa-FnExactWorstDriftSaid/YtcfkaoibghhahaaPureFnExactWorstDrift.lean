/- The law FnExactWorstDrift comes to true for every input: The program's WorstDrift returns what the reference's returns, for all arguments. No condition beside the statement's own. -/
import Derived.Test.YtcfkaoibghhahaaStFnExactWorstDrift
namespace Go.Proofs.Ytcfkaoibghhahaa.Pure
open Go Go.RowKit Go.Proofs.Ytcfkaoibghhahaa.MFnExactWorstDrift Go.Proofs.YtcfkaoibghhahaaW.PrintWords Go.Proofs.YtcfkaoibghhahaaW.PrintLast Go.Proofs.YtcfkaoibghhahaaW.PrintMore
set_option linter.unusedVariables false
set_option linter.unusedSimpArgs false

theorem ev_succ {α : Type} {g : Nat → Option α} {r : α} (h : Ev (fun k => g (k + 1)) r) : Ev g r := Ev.step (fun _ => rfl) h
theorem ev_ite {α : Type} {c : Prop} [Decidable c] {f g : Nat → Option α} {r : α} (h : c → Ev f r) (h' : ¬ c → Ev g r) : Ev (fun k => if c then f k else g k) r := by
  by_cases hc : c
  · simp only [if_pos hc]; exact h hc
  · simp only [if_neg hc]; exact h' hc
theorem ix {α : Type} {l pre t : List α} {a : α} (h : l = pre ++ a :: t) (hl : l.length < 4611686018427387904) :
    (pre.length : Int) < (l.length : Int) ∧ (∀ d, l.getD pre.length d = a) ∧ wrap64 ((pre.length : Int) + 1) = ((pre ++ [a]).length : Int) ∧ l = (pre ++ [a]) ++ t := by
  subst h
  simp only [List.length_append, List.length_cons, List.length_nil] at *
  refine ⟨by omega, fun d => by simp [List.getD], by unfold wrap64; omega, by simp⟩
theorem ixn {α : Type} {l pre : List α} (h : l = pre ++ []) : ¬ (pre.length : Int) < (l.length : Int) := by
  subst h; simp
theorem nn (n : Nat) : (0 : Int) ≤ (n : Int) := Int.natCast_nonneg n
theorem w64 {n : Int} (h0 : -9223372036854775808 ≤ n) (h1 : n < 9223372036854775808) : wrap64 n = n := by unfold wrap64; omega
theorem mn_min (a b : Int) : mn a b = min a b := by unfold mn; omega
theorem mx_max (a b : Int) : mx a b = max a b := by unfold mx; omega
theorem set_app {α : Type} (pre t : List α) (a b : α) : (pre ++ a :: t).set pre.length b = pre ++ b :: t := by simp
theorem app1 {α : Type} (pre : List α) (a : α) (t : List α) : pre ++ a :: t = (pre ++ [a]) ++ t := by simp

/-- The numbers from c on, n of them. -/
def upto : Nat → Int → List Int
  | 0, _ => []
  | n + 1, c => c :: upto n (c + 1)
theorem upto_length : ∀ n c, (upto n c).length = n
  | 0, _ => rfl
  | n + 1, c => by simp [upto, upto_length n]

theorem spec_l1In_eq (a b c : Int) : spec_l1In.f a b c = some (decide (b ≤ a) && decide (a ≤ c)) := by
  unfold spec_l1In.f; split <;> simp <;> omega
theorem impl_isWithin_eq (a b c : Int) : impl_isWithin.f a b c = some (decide (b ≤ a) && decide (a ≤ c)) := by
  unfold impl_isWithin.f; split <;> simp <;> omega
abbrev Pl := S25
abbrev LPl := S71
theorem ix2 {α : Type} {l pre t : List α} {p a : α} (h : l = (pre ++ [p]) ++ a :: t) (hl : l.length < 4611686018427387904) :
    (((pre ++ [p]).length : Int)) > 0 ∧ wrap64 (((pre ++ [p]).length : Int) - 1) = (pre.length : Int) ∧ (∀ d, l.getD pre.length d = p) ∧ (pre.length : Int) < (l.length : Int) := by
  subst h
  simp only [List.length_append, List.length_cons, List.length_nil] at *
  refine ⟨by omega, by unfold wrap64; omega, fun d => by simp [List.getD], by omega⟩
theorem ev_eq {α : Type} {f g : Nat → Option α} {r : α} (h : f = g) (k : Ev g r) : Ev f r := h ▸ k
def drB (a b : Int) : Bool := (decide (-8 ≤ a) && decide (a ≤ 8)) && (decide (-8 ≤ b) && decide (b ≤ 8))
theorem spec_l4Drift_eq (a b : Int) : spec_l4Drift.f a b = some (drB a b) := by
  simp only [spec_l4Drift.f, spec_l1In_eq, Option.bind_some, drB]
  cases (decide (-8 ≤ a) && decide (a ≤ 8)) <;> simp
def drB' (a b : Int) : Bool := (decide (-8 ≤ a) && decide (a ≤ 8)) && (decide (-8 ≤ b) && decide (b ≤ 8))
theorem impl_isDrift_eq (a b : Int) : impl_isDrift.f a b = some (drB' a b) := by
  simp only [impl_isDrift.f, impl_isWithin_eq, Option.bind_some, drB']
  cases (decide (-8 ≤ a) && decide (a ≤ 8)) <;> simp
theorem laws_toPlace_eq (a b : Int) : laws_toPlace.f a b = some (a, b) := rfl
def cvP (g : LPl) : Pl := ⟨g.f0, g.f1⟩
theorem laws_toPlaceS_l0 (l : List LPl) (hl : l.length < 1099511627776) : ∀ (suf pre : List LPl), l = pre ++ suf →
    Ev (fun k => laws_toPlaceS.l0 k l (pre.map cvP ++ List.replicate suf.length z25) (pre.length : Int)) (l.map cvP) := by
  intro suf
  induction suf with
  | nil =>
    intro pre h
    refine ev_succ ?_
    simp only [laws_toPlaceS.l0, if_neg (ixn h)]
    simpa [h] using Ev.now (l.map cvP)
  | cons a t ih =>
    intro pre h
    obtain ⟨h1, h2, h3, h4⟩ := ix h (by omega)
    refine ev_succ ?_
    have h5 : (pre.length : Int) < ((pre.map cvP ++ List.replicate (a :: t).length z25).length : Int) := by simp; omega
    simp only [laws_toPlaceS.l0, if_pos h1, if_pos (nn _), laws_toPlace_eq, Option.bind_some, if_pos h5, Int.toNat_natCast, rd_T71, h2, h3]
    have := ih (pre ++ [a]) h4
    have hp : pre.length = (pre.map cvP).length := by simp
    rw [List.length_cons, List.replicate_succ, hp, set_app]
    simpa [cvP] using this
theorem laws_toPlaceS_ev (l : List LPl) (hl : l.length < 1099511627776) : Ev (fun k => laws_toPlaceS.f k l) (l.map cvP) := by
  have := laws_toPlaceS_l0 l hl l [] rfl
  simp only [laws_toPlaceS.f, if_pos (nn _), Int.toNat_natCast, if_pos (show l.length ≤ 17592186044416 by omega)]
  simpa using this
theorem laws_eqPlace_rfl (a b : Int) : laws_eqPlace.f a b a b = some true := by simp [laws_eqPlace.f]
theorem laws_eqPlaceS_l0 (x : List Pl) (hl : x.length < 1099511627776) : ∀ (d i : Nat), i + d = x.length → Ev (fun k => laws_eqPlaceS.l0 k x x (i : Int)) true := by
  intro d
  induction d with
  | zero =>
    intro i h
    refine ev_succ ?_
    simp only [laws_eqPlaceS.l0, if_neg (show ¬ ((i : Int) < (x.length : Int)) by omega)]
    exact Ev.now _
  | succ d ih =>
    intro i h
    refine ev_succ ?_
    simp only [laws_eqPlaceS.l0, if_pos (show ((i : Int) < (x.length : Int)) by omega), if_pos (nn _), laws_eqPlace_rfl, Option.bind_some, if_true]
    rw [show wrap64 ((i : Int) + 1) = ((i + 1 : Nat) : Int) by unfold wrap64; omega]
    exact ih (i + 1) (by omega)
theorem laws_eqPlaceS_rfl (x : List Pl) (hl : x.length < 1099511627776) : Ev (fun k => laws_eqPlaceS.f k x x) true := by
  simp only [laws_eqPlaceS.f, if_true]
  exact laws_eqPlaceS_l0 x hl x.length 0 (by omega)
theorem laws_szPlaceS_eq (l : List LPl) (n : Int) (hn : 0 ≤ n) (hn2 : n ≤ 1048576) (hl : l.length ≤ maxLen) : laws_szPlaceS.f l n = some (if n - (l.length : Int) < 0 then -1 else n - (l.length : Int)) := by
  have : (l.length : Int) ≤ 9223372036854775807 := by have : maxLen = 9223372036854775807 := rfl; omega
  unfold laws_szPlaceS.f
  rw [show wrap64 (n - (l.length : Int)) = n - (l.length : Int) by unfold wrap64; omega]
  split <;> rfl
def rotN : Nat → Int × Int → Int × Int
  | 0, p => p
  | k + 1, p => rotN k (wrap64 (-p.2), p.1)
/-- A place turned by n quarters. -/
def pTurn4 (n : Int) (p : Int × Int) : Int × Int := rotN (n % 4).toNat p
theorem spec_l2Mod_eq (n : Int) : spec_l2Mod.f n = some (n % 4) := by
  unfold spec_l2Mod.f
  have h1 := Int.emod_nonneg n (show (4 : Int) ≠ 0 by omega)
  have h2 := Int.emod_lt_of_pos n (show (0 : Int) < 4 by omega)
  have h3 := Int.tmod_eq_emod_of_nonneg (a := n) (b := 4)
  by_cases h : 0 ≤ n
  · rw [h3 h, if_neg (by omega)]
  · have h4 : Int.tmod n 4 = -(Int.tmod (-n) 4) := by rw [Int.neg_tmod, Int.neg_neg]
    have h5 := Int.tmod_eq_emod_of_nonneg (a := -n) (b := 4) (by omega)
    rw [h4, h5]
    split
    · rw [show wrap64 (-(-n % 4) + 4) = -(-n % 4) + 4 by unfold wrap64; omega]
      congr 1; omega
    · congr 1; omega
theorem impl_turns_eq (n : Int) : impl_turns.f n = some (n % 4) := by
  unfold impl_turns.f
  by_cases h : 0 ≤ n
  · rw [Int.tmod_eq_emod_of_nonneg h, show wrap64 (n % 4 + 4) = n % 4 + 4 by unfold wrap64; omega, Int.tmod_eq_emod_of_nonneg (by omega)]
    congr 1; omega
  · have h4 : Int.tmod n 4 = -(-n % 4) := by
      rw [← Int.tmod_eq_emod_of_nonneg (a := -n) (b := 4) (by omega), Int.neg_tmod, Int.neg_neg]
    rw [h4, show wrap64 (-(-n % 4) + 4) = -(-n % 4) + 4 by unfold wrap64; omega, Int.tmod_eq_emod_of_nonneg (by omega)]
    congr 1; omega
theorem spec_l2Turn_l0 : ∀ (m : Nat) (x y : Int), m < 10 → Ev (fun k => spec_l2Turn.l0 k (m : Int) x y) (rotN m (x, y)) := by
  intro m
  induction m with
  | zero =>
    intro x y _
    refine ev_succ ?_
    simp only [spec_l2Turn.l0, if_neg (show ¬ (((0 : Nat) : Int) > 0) by omega)]
    exact Ev.now _
  | succ m ih =>
    intro x y hm
    refine ev_succ ?_
    simp only [spec_l2Turn.l0, if_pos (show (((m + 1 : Nat) : Int) > 0) by omega)]
    rw [show wrap64 (((m + 1 : Nat) : Int) - 1) = (m : Int) by unfold wrap64; omega]
    exact ih _ _ (by omega)
theorem spec_l2Turn_ev (x y n : Int) : Ev (fun k => spec_l2Turn.f k x y n) (pTurn4 n (x, y)) := by
  unfold spec_l2Turn.f pTurn4
  simp only [spec_l2Mod_eq, Option.bind_some]
  have := spec_l2Turn_l0 (n % 4).toNat x y (by omega)
  rwa [show (((n % 4).toNat : Nat) : Int) = n % 4 by omega] at this
theorem impl_turned_l0 : ∀ (m : Nat) (i e x y : Int), 0 ≤ i → i + m = e → e < 10 → Ev (fun k => impl_turned.l0 k e i x y) (rotN m (x, y)) := by
  intro m
  induction m with
  | zero =>
    intro i e x y h0 h _
    refine ev_succ ?_
    simp only [impl_turned.l0, if_neg (show ¬ (i < e) by omega)]
    exact Ev.now _
  | succ m ih =>
    intro i e x y h0 h he
    refine ev_succ ?_
    simp only [impl_turned.l0, if_pos (show (i < e) by omega)]
    rw [show wrap64 (i + 1) = i + 1 by unfold wrap64; omega]
    exact ih (i + 1) e _ _ (by omega) (by omega) he
theorem impl_turned_ev (x y n : Int) : Ev (fun k => impl_turned.f k x y n) (pTurn4 n (x, y)) := by
  unfold impl_turned.f pTurn4
  simp only [impl_turns_eq, Option.bind_some]
  exact impl_turned_l0 (n % 4).toNat 0 (n % 4) x y (by omega) (by omega) (by omega)
/-- The order of places. -/
def pCmp (a b c d : Int) : Int := if a < c then -1 else if a = c then (if b < d then -1 else if b = d then 0 else 1) else 1
def rRest.gDr2 (a b : Int) : Bool := (decide (-8 ≤ a) && decide (a ≤ 8)) && (decide (-8 ≤ b) && decide (b ≤ 8))
def rRest : Pl → List Pl → Bool
  | _, [] => true
  | p, q :: t => rRest.gDr2 q.f0 q.f1 && (decide (pCmp p.f0 p.f1 q.f0 q.f1 < 0) && rRest q t)
def rAll : List Pl → Bool
  | [] => true
  | q :: t => rRest.gDr2 q.f0 q.f1 && rRest q t
/-- IsRose -/
def pRose (l : List Pl) : Bool := rAll l && (decide (1 ≤ (l.length : Int)) && decide ((l.length : Int) ≤ 4))
theorem pRose_len {l : List Pl} (h : pRose l = true) : 1 ≤ l.length ∧ l.length ≤ 4 := by
  simp only [pRose, Bool.and_eq_true, decide_eq_true_eq] at h; omega
theorem spec_ComparePlaces_ev (a b c d : Int) : Ev (fun k => spec_ComparePlaces.f k a b c d) (pCmp a b c d) := by
  unfold spec_ComparePlaces.f pCmp
  refine ev_ite (fun h => ?_) (fun h => ?_)
  · rw [if_pos h, decide_eq_true h]
    refine ev_succ ?_
    simp only [spec_ComparePlaces.j0, if_true]; exact Ev.now _
  · rw [if_neg h]
    refine ev_ite (fun h1 => ?_) (fun h1 => ?_)
    · rw [if_pos h1]
      refine ev_succ ?_
      by_cases h2 : b < d
      · simp only [spec_ComparePlaces.j0, decide_eq_true h2, if_true, if_pos h2]; exact Ev.now _
      · simp only [spec_ComparePlaces.j0, decide_eq_false h2, Bool.false_eq_true, if_false, if_neg h2, h1, beq_self_eq_true, Bool.true_and, beq_iff_eq]
        refine ev_ite (fun h3 => ?_) (fun h3 => ?_)
        · rw [if_pos h3]; exact Ev.now _
        · rw [if_neg h3]; exact Ev.now _
    · rw [if_neg h1]
      refine ev_succ ?_
      simp only [spec_ComparePlaces.j0, Bool.false_eq_true, if_false, beq_eq_false_iff_ne.2 h1, Bool.false_and]; exact Ev.now _
def pCmpI (a b : Int) : Int := if a < b then -1 else if a = b then 0 else 1
theorem cmp_Compare_int_eq (a b : Int) : cmp_Compare_int.f a b = some (pCmpI a b) := by
  simp only [cmp_Compare_int.f, cmp_isNaN_int.f, bne_self_eq_false, Option.bind_some, Bool.false_eq_true, if_false, pCmpI]
  repeat' split
  all_goals first | rfl | omega
theorem cmp_Or_int_ev (a b : Int) : Ev (fun k => cmp_Or_int.f k [a, b]) (if a = 0 then b else a) := by
  unfold cmp_Or_int.f
  refine ev_succ ?_
  simp only [cmp_Or_int.l0, List.length_cons, List.length_nil, if_pos (show ((0 : Int) < ((0 + 1 + 1 : Nat) : Int)) by omega), if_pos (show (0 : Int) ≤ 0 by omega), rd, Int.toNat_zero, List.getD_cons_zero]
  refine ev_ite (fun h => ?_) (fun h => ?_)
  · rw [if_pos h, show wrap64 (0 + 1) = 1 by unfold wrap64; omega]
    refine ev_succ ?_
    simp only [cmp_Or_int.l0, List.length_cons, List.length_nil, if_pos (show ((1 : Int) < ((0 + 1 + 1 : Nat) : Int)) by omega), if_pos (show (0 : Int) ≤ 1 by omega), rd, show ((1 : Int).toNat) = 1 from rfl, List.getD_cons_succ, List.getD_cons_zero]
    refine ev_ite (fun h2 => ?_) (fun h2 => Ev.now _)
    rw [show wrap64 (1 + 1) = 2 by unfold wrap64; omega, h2]
    refine ev_succ ?_
    simp only [cmp_Or_int.l0, List.length_cons, List.length_nil, if_neg (show ¬ ((2 : Int) < ((0 + 1 + 1 : Nat) : Int)) by omega)]
    exact Ev.now _
  · rw [if_neg h]; exact Ev.now _
theorem impl_ComparePlaces_ev (a b c d : Int) : Ev (fun k => impl_ComparePlaces.f k a b c d) (pCmp a b c d) := by
  simp only [impl_ComparePlaces.f, cmp_Compare_int_eq, Option.bind_some]
  have := cmp_Or_int_ev (pCmpI a c) (pCmpI b d)
  have e : (if pCmpI a c = 0 then pCmpI b d else pCmpI a c) = pCmp a b c d := by
    unfold pCmpI pCmp
    by_cases h1 : a < c
    · simp [h1]
    · by_cases h2 : a = c
      · simp [h2]
      · simp [h1, h2]
  rw [e] at this
  exact Ev.bind this (Ev.now _)
theorem spec_IsRose_l0 (l : List Pl) (hl : l.length < 1099511627776) : ∀ (suf pre : List Pl) (p : Pl), l = (pre ++ [p]) ++ suf →
    Ev (fun k => spec_IsRose.l0 k l l (l.length : Int) ((pre ++ [p]).length : Int)) (rRest p suf && (decide (1 ≤ (l.length : Int)) && decide ((l.length : Int) ≤ 4))) := by
  intro suf
  induction suf with
  | nil =>
    intro pre p h
    refine ev_succ ?_
    have h1 : 1 ≤ (l.length : Int) := by rw [h]; simp; omega
    simp only [spec_IsRose.l0, if_neg (ixn h), rRest, Bool.true_and, if_pos (show (l.length : Int) ≥ 1 by omega), decide_eq_true h1]
    exact Ev.now _
  | cons a t ih =>
    intro pre p h
    obtain ⟨h1, h2, h3, h4⟩ := ix h (by omega)
    obtain ⟨h5, h6, h7, h8⟩ := ix2 h (by omega)
    refine ev_succ ?_
    simp only [spec_IsRose.l0, if_pos h1, if_pos (nn _), Int.toNat_natCast, rd_T25, h2, h3, h6, h7, spec_l4Drift_eq, Option.bind_some, if_pos h5, if_pos h8]
    rw [rRest]
    change Ev (fun k => if rRest.gDr2 a.f0 a.f1 = true then _ else _) _
    refine ev_ite (fun c1 => ?_) (fun c1 => ?_)
    · rw [c1, Bool.true_and]
      refine Ev.bind (spec_ComparePlaces_ev _ _ _ _) ?_
      refine ev_ite (fun c3 => ?_) (fun c3 => ?_)
      · rw [decide_eq_false (by omega), Bool.false_and, Bool.false_and]; exact Ev.now _
      · rw [decide_eq_true (by omega), Bool.true_and]; exact ih (pre ++ [p]) a h4
    · rw [Bool.eq_false_iff.2 c1, Bool.false_and, Bool.false_and]; exact Ev.now _
theorem spec_IsRose_ev (l : List Pl) (hl : l.length < 1099511627776) : Ev (fun k => spec_IsRose.f k l) (pRose l) := by
  unfold spec_IsRose.f pRose
  refine ev_succ ?_
  cases l with
  | nil =>
    simp only [spec_IsRose.l0]
    exact Ev.now _
  | cons a t =>
    obtain ⟨h1, h2, h3, h4⟩ := ix (l := a :: t) (pre := []) rfl (by omega)
    simp only [List.length_nil, Int.natCast_zero] at h1 h2 h3
    simp only [spec_IsRose.l0, if_pos h1, if_pos (show (0 : Int) ≤ 0 by omega), Int.toNat_zero, rd_T25, h2, h3, spec_l4Drift_eq, Option.bind_some, if_neg (show ¬ ((0 : Int) > 0) by omega)]
    rw [rAll]
    change Ev (fun k => if rRest.gDr2 a.f0 a.f1 = true then _ else _) _
    refine ev_ite (fun c1 => ?_) (fun c1 => ?_)
    · rw [c1, Bool.true_and]
      exact spec_IsRose_l0 (a :: t) hl t [] a rfl
    · rw [Bool.eq_false_iff.2 c1, Bool.false_and, Bool.false_and]; exact Ev.now _
theorem impl_IsRose_l0 (l : List Pl) (hl : l.length < 1099511627776) : ∀ (suf pre : List Pl) (p : Pl), l = (pre ++ [p]) ++ suf →
    Ev (fun k => impl_IsRose.l0 k l l (l.length : Int) ((pre ++ [p]).length : Int)) (rRest p suf && (decide (1 ≤ (l.length : Int)) && decide ((l.length : Int) ≤ 4))) := by
  intro suf
  induction suf with
  | nil =>
    intro pre p h
    refine ev_succ ?_
    simp only [impl_IsRose.l0, if_neg (ixn h), rRest, Bool.true_and, impl_isWithin_eq, Option.bind_some]
    exact Ev.now _
  | cons a t ih =>
    intro pre p h
    obtain ⟨h1, h2, h3, h4⟩ := ix h (by omega)
    obtain ⟨h5, h6, h7, h8⟩ := ix2 h (by omega)
    refine ev_succ ?_
    simp only [impl_IsRose.l0, if_pos h1, if_pos (nn _), Int.toNat_natCast, rd_T25, h2, h3, h6, h7, impl_isDrift_eq, Option.bind_some, if_pos h5, if_pos h8]
    rw [rRest]
    change Ev (fun k => if rRest.gDr2 a.f0 a.f1 = true then _ else _) _
    refine ev_ite (fun c1 => ?_) (fun c1 => ?_)
    · rw [c1, Bool.true_and]
      refine Ev.bind (impl_ComparePlaces_ev _ _ _ _) ?_
      refine ev_ite (fun c3 => ?_) (fun c3 => ?_)
      · rw [decide_eq_false (by omega), Bool.false_and, Bool.false_and]; exact Ev.now _
      · rw [decide_eq_true (by omega), Bool.true_and]; exact ih (pre ++ [p]) a h4
    · rw [Bool.eq_false_iff.2 c1, Bool.false_and, Bool.false_and]; exact Ev.now _
theorem impl_IsRose_ev (l : List Pl) (hl : l.length < 1099511627776) : Ev (fun k => impl_IsRose.f k l) (pRose l) := by
  unfold impl_IsRose.f pRose
  refine ev_succ ?_
  cases l with
  | nil =>
    simp only [impl_IsRose.l0, impl_isWithin_eq, Option.bind_some]
    exact Ev.now _
  | cons a t =>
    obtain ⟨h1, h2, h3, h4⟩ := ix (l := a :: t) (pre := []) rfl (by omega)
    simp only [List.length_nil, Int.natCast_zero] at h1 h2 h3
    simp only [impl_IsRose.l0, if_pos h1, if_pos (show (0 : Int) ≤ 0 by omega), Int.toNat_zero, rd_T25, h2, h3, impl_isDrift_eq, Option.bind_some, if_neg (show ¬ ((0 : Int) > 0) by omega)]
    rw [rAll]
    change Ev (fun k => if rRest.gDr2 a.f0 a.f1 = true then _ else _) _
    refine ev_ite (fun c1 => ?_) (fun c1 => ?_)
    · rw [c1, Bool.true_and]
      exact impl_IsRose_l0 (a :: t) hl t [] a rfl
    · rw [Bool.eq_false_iff.2 c1, Bool.false_and, Bool.false_and]; exact Ev.now _
def pHead (h : Int) : Bool := decide (0 ≤ h) && decide (h ≤ 3)
theorem spec_IsHeading_eq (h : Int) : spec_IsHeading.f h = some (pHead h) := by
  unfold spec_IsHeading.f pHead; split <;> simp <;> omega
theorem impl_IsHeading_eq (h : Int) : impl_IsHeading.f h = some (pHead h) := by
  simp only [impl_IsHeading.f, impl_isWithin_eq, Option.bind_some, pHead]
def wStep (h : Int) (b : Int × Int) (p : Pl) : Int × Int := if (pTurn4 (wrap64 (-h)) (p.f0, p.f1)).1 > (pTurn4 (wrap64 (-h)) b).1 then (p.f0, p.f1) else b
def pWorstL (h : Int) : List Pl → Int × Int
  | [] => (0, 0)
  | p :: t => t.foldl (wStep h) (p.f0, p.f1)
/-- WorstDrift -/
def pWorst (l : List Pl) (h : Int) : Int × Int := if pRose l = true then if pHead h = true then pWorstL h l else (0, 0) else (0, 0)
theorem spec_WorstDrift_l0 (l : List Pl) (h : Int) (hl : l.length < 1099511627776) : ∀ (suf pre : List Pl) (x y : Int), l = pre ++ suf → 0 < pre.length →
    Ev (fun k => spec_WorstDrift.l0 k h l (l.length : Int) (pre.length : Int) x y) (suf.foldl (wStep h) (x, y)) := by
  intro suf
  induction suf with
  | nil =>
    intro pre x y hp h0
    refine ev_succ ?_
    simp only [spec_WorstDrift.l0, if_neg (ixn hp)]
    exact Ev.now _
  | cons a t ih =>
    intro pre x y hp h0
    obtain ⟨h1, h2, h3, h4⟩ := ix hp (by omega)
    refine ev_succ ?_
    simp only [spec_WorstDrift.l0, if_pos h1, if_pos (nn _), Int.toNat_natCast, rd_T25, h2, h3, if_neg (show ¬ ((pre.length : Int) = 0) by omega)]
    refine Ev.bind (spec_l2Turn_ev _ _ _) ?_
    refine Ev.bind (spec_l2Turn_ev _ _ _) ?_
    rw [List.foldl_cons, wStep]
    refine ev_ite (fun c => ?_) (fun c => ?_)
    · rw [if_pos c]; exact ih _ _ _ h4 (by simp)
    · rw [if_neg c]; exact ih _ _ _ h4 (by simp)
theorem spec_WorstDrift_ev (l : List Pl) (h : Int) (hl : l.length < 1099511627776) : Ev (fun k => spec_WorstDrift.f k l h) (pWorst l h) := by
  have j1 : Ev (fun k => spec_WorstDrift.j0 k l h true 0 0) (0, 0) := by
    refine ev_succ ?_
    simp only [spec_WorstDrift.j0, if_true]; exact Ev.now _
  unfold spec_WorstDrift.f pWorst
  refine Ev.bind (spec_IsRose_ev l hl) ?_
  refine ev_ite (fun c => ?_) (fun c => ?_)
  · rw [if_pos c]
    simp only [spec_IsHeading_eq, Option.bind_some]
    cases hh : pHead h
    · simpa using j1
    · refine ev_succ ?_
      simp only [spec_WorstDrift.j0, Bool.not_true, Bool.false_eq_true, if_false, if_true]
      cases l with
      | nil => simp [pRose] at c
      | cons a t =>
        obtain ⟨h1, h2, h3, h4⟩ := ix (l := a :: t) (pre := []) rfl (by omega)
        simp only [List.length_nil, Int.natCast_zero] at h1 h2 h3
        refine ev_succ ?_
        simp only [spec_WorstDrift.l0, if_pos h1, if_pos (show (0 : Int) ≤ 0 by omega), Int.toNat_zero, rd_T25, h2, h3, if_true]
        exact spec_WorstDrift_l0 (a :: t) h hl t [a] _ _ rfl (by simp)
  · rw [if_neg c]; exact j1
theorem impl_WorstDrift_l0 (l : List Pl) (h : Int) (hl : l.length < 1099511627776) : ∀ (suf pre : List Pl) (x y : Int), l = pre ++ suf →
    Ev (fun k => impl_WorstDrift.l0 k h l (l.length : Int) (pre.length : Int) x y) (suf.foldl (wStep h) (x, y)) := by
  intro suf
  induction suf with
  | nil =>
    intro pre x y hp
    refine ev_succ ?_
    simp only [impl_WorstDrift.l0, if_neg (ixn hp)]
    exact Ev.now _
  | cons a t ih =>
    intro pre x y hp
    obtain ⟨h1, h2, h3, h4⟩ := ix hp (by omega)
    refine ev_succ ?_
    simp only [impl_WorstDrift.l0, if_pos h1, if_pos (nn _), Int.toNat_natCast, rd_T25, h2, h3]
    refine Ev.bind (impl_turned_ev _ _ _) ?_
    refine Ev.bind (impl_turned_ev _ _ _) ?_
    rw [List.foldl_cons, wStep]
    refine ev_ite (fun c => ?_) (fun c => ?_)
    · rw [if_pos c]; exact ih _ _ _ h4
    · rw [if_neg c]; exact ih _ _ _ h4
theorem impl_WorstDrift_ev (l : List Pl) (h : Int) (hl : l.length < 1099511627776) : Ev (fun k => impl_WorstDrift.f k l h) (pWorst l h) := by
  have j1 : Ev (fun k => impl_WorstDrift.j0 k l h true) (0, 0) := by
    refine ev_succ ?_
    simp only [impl_WorstDrift.j0, if_true]; exact Ev.now _
  unfold impl_WorstDrift.f pWorst
  refine Ev.bind (impl_IsRose_ev l hl) ?_
  refine ev_ite (fun c => ?_) (fun c => ?_)
  · rw [if_pos c]
    simp only [impl_IsHeading_eq, Option.bind_some]
    cases hh : pHead h
    · simpa using j1
    · refine ev_succ ?_
      simp only [impl_WorstDrift.j0, Bool.not_true, Bool.false_eq_true, if_false, if_true]
      cases l with
      | nil => simp [pRose] at c
      | cons a t =>
        obtain ⟨h1, h2, h3, h4⟩ := ix (l := a :: t) (pre := []) rfl (by omega)
        simp only [List.length_nil, Int.natCast_zero] at h1 h2 h3
        simp only [if_pos h1, rd_T25, Int.toNat_zero, h2]
        have := impl_WorstDrift_l0 (a :: t) h hl (a :: t) [] a.f0 a.f1 rfl
        rw [List.foldl_cons, wStep, if_neg (by omega)] at this
        exact this
  · rw [if_neg c]; exact j1
theorem FnExactWorstDrift : laws_FnExactWorstDrift.Pure := by
  intro l h hm _ _ _
  refine Ev.rounds ?_
  simp only [laws_FnExactWorstDrift.f, laws_szPlaceS_eq l 1048576 (by omega) (by omega) hm, Option.bind_some]
  refine ev_ite (fun _ => Ev.now _) (fun h => ?_)
  have hl : l.length < 1099511627776 := by
    refine Decidable.byContradiction fun hn => h ?_
    rw [if_pos (by omega)]; omega
  have hl' : (l.map cvP).length < 1099511627776 := by simpa using hl
  refine Ev.bind (laws_toPlaceS_ev l hl) ?_
  refine Ev.bind (spec_WorstDrift_ev _ _ hl') ?_
  refine Ev.bind (laws_toPlaceS_ev l hl) ?_
  refine Ev.bind (impl_WorstDrift_ev _ _ hl') ?_
  simp only [laws_eqPlace_rfl, Option.bind_some, if_true]
  refine Ev.bind (laws_toPlaceS_ev l hl) ?_
  refine Ev.bind (laws_eqPlaceS_rfl _ hl') ?_
  exact Ev.now _
theorem pTurn4_cases (n : Int) : (n % 4 = 0 ∧ ∀ x y : Int, (-1000000 ≤ x ∧ x ≤ 1000000) ∧ (-1000000 ≤ y ∧ y ≤ 1000000) → pTurn4 n (x, y) = (x, y)) ∨ (n % 4 = 1 ∧ ∀ x y : Int, (-1000000 ≤ x ∧ x ≤ 1000000) ∧ (-1000000 ≤ y ∧ y ≤ 1000000) → pTurn4 n (x, y) = (-y, x)) ∨
    (n % 4 = 2 ∧ ∀ x y : Int, (-1000000 ≤ x ∧ x ≤ 1000000) ∧ (-1000000 ≤ y ∧ y ≤ 1000000) → pTurn4 n (x, y) = (-x, -y)) ∨ (n % 4 = 3 ∧ ∀ x y : Int, (-1000000 ≤ x ∧ x ≤ 1000000) ∧ (-1000000 ≤ y ∧ y ≤ 1000000) → pTurn4 n (x, y) = (y, -x)) := by
  have h : n % 4 = 0 ∨ n % 4 = 1 ∨ n % 4 = 2 ∨ n % 4 = 3 := by omega
  rcases h with h | h | h | h
  · exact .inl ⟨h, fun x y _ => by rw [pTurn4, h]; rfl⟩
  · refine .inr (.inl ⟨h, fun x y hb => ?_⟩)
    rw [pTurn4, h, show ((1 : Int)).toNat = 1 from rfl]
    simp only [rotN, Prod.mk.injEq]
    exact ⟨by unfold wrap64; omega, trivial⟩
  · refine .inr (.inr (.inl ⟨h, fun x y hb => ?_⟩))
    rw [pTurn4, h, show ((2 : Int)).toNat = 2 from rfl]
    simp only [rotN, Prod.mk.injEq]
    exact ⟨by unfold wrap64; omega, by unfold wrap64; omega⟩
  · refine .inr (.inr (.inr ⟨h, fun x y hb => ?_⟩))
    rw [pTurn4, h, show ((3 : Int)).toNat = 3 from rfl]
    simp only [rotN, Prod.mk.injEq]
    exact ⟨by unfold wrap64; omega, by unfold wrap64; omega⟩
theorem pTurn4_bound (n : Int) {x y B : Int} (hB : B ≤ 1000000) (h : (-B ≤ x ∧ x ≤ B) ∧ (-B ≤ y ∧ y ≤ B)) : (-B ≤ (pTurn4 n (x, y)).1 ∧ (pTurn4 n (x, y)).1 ≤ B) ∧ (-B ≤ (pTurn4 n (x, y)).2 ∧ (pTurn4 n (x, y)).2 ≤ B) := by
  rcases pTurn4_cases n with ⟨_, e⟩ | ⟨_, e⟩ | ⟨_, e⟩ | ⟨_, e⟩
  all_goals
    rw [e x y (by omega)]
    omega
theorem pTurn4_add (n : Int) {x y u v : Int} (h : (-100000 ≤ x ∧ x ≤ 100000) ∧ (-100000 ≤ y ∧ y ≤ 100000)) (k : (-100000 ≤ u ∧ u ≤ 100000) ∧ (-100000 ≤ v ∧ v ≤ 100000)) :
    pTurn4 n (x + u, y + v) = ((pTurn4 n (x, y)).1 + (pTurn4 n (u, v)).1, (pTurn4 n (x, y)).2 + (pTurn4 n (u, v)).2) := by
  rcases pTurn4_cases n with ⟨_, e⟩ | ⟨_, e⟩ | ⟨_, e⟩ | ⟨_, e⟩
  all_goals
    rw [e x y (by omega), e u v (by omega), e (x + u) (y + v) (by omega)]
    (try (apply Prod.ext <;> (try dsimp only) <;> omega))
theorem pTurn4_back (n m : Int) (hm : (n + m) % 4 = 0) {x y : Int} (h : (-100000 ≤ x ∧ x ≤ 100000) ∧ (-100000 ≤ y ∧ y ≤ 100000)) : pTurn4 m (pTurn4 n (x, y)) = (x, y) := by
  rcases pTurn4_cases n with ⟨hn, e⟩ | ⟨hn, e⟩ | ⟨hn, e⟩ | ⟨hn, e⟩ <;> rcases pTurn4_cases m with ⟨hk, e'⟩ | ⟨hk, e'⟩ | ⟨hk, e'⟩ | ⟨hk, e'⟩
  all_goals first
    | (exfalso; omega)
    | (rw [e x y (by omega), e' _ _ (by omega)]; try (apply Prod.ext <;> (try dsimp only) <;> omega))
theorem back_turns (n : Int) : (n + wrap64 (4 - Int.tmod n 4)) % 4 = 0 := by
  have : -3 ≤ Int.tmod n 4 ∧ Int.tmod n 4 ≤ 3 ∧ (n - Int.tmod n 4) % 4 = 0 := by
    by_cases h : 0 ≤ n
    · rw [Int.tmod_eq_emod_of_nonneg h]; omega
    · have h4 : Int.tmod n 4 = -(-n % 4) := by
        rw [← Int.tmod_eq_emod_of_nonneg (a := -n) (b := 4) (by omega), Int.neg_tmod, Int.neg_neg]
      rw [h4]; omega
  rw [show wrap64 (4 - Int.tmod n 4) = 4 - Int.tmod n 4 by unfold wrap64; omega]
  omega

end Go.Proofs.Ytcfkaoibghhahaa.Pure
