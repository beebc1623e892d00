/- The law FnExactShiftRig comes to true for every input: The program's ShiftRig returns what the reference's returns, for all arguments. No condition beside the statement's own. -/
import Derived.Test.YtkedcokhcgklpaaStFnExactShiftRig
namespace Go.Proofs.Ytkedcokhcgklpaa.Pure
open Go Go.RowKit Go.Proofs.Ytkedcokhcgklpaa.MFnExactShiftRig Go.Proofs.YtkedcokhcgklpaaW.PrintWords Go.Proofs.YtkedcokhcgklpaaW.PrintLast Go.Proofs.YtkedcokhcgklpaaW.PrintMore
set_option linter.unusedVariables false
set_option linter.unusedSimpArgs false

theorem ev_succ {α : Type} {g : Nat → Option α} {r : α} (h : Ev (fun k => g (k + 1)) r) : Ev g r := Ev.step (fun _ => rfl) h
theorem ev_ite {α : Type} {c : Prop} [Decidable c] {f g : Nat → Option α} {r : α} (h : c → Ev f r) (h' : ¬ c → Ev g r) : Ev (fun k => if c then f k else g k) r := by
 by_cases hc : c
 ·simp only [if_pos hc]; exact h hc
 ·simp only [if_neg hc]; exact h' hc
theorem ix {α : Type} {l pre t : List α} {a : α} (h : l = pre ++ a :: t) (hl : l.length < 4611686018427387904) :
  (pre.length : Int) < (l.length : Int) ∧ (∀ d, l.getD pre.length d = a) ∧ wrap64 ((pre.length : Int) + 1) = ((pre ++ [a]).length : Int) ∧ l = (pre ++ [a]) ++ t := by
 subst h
 simp only [List.length_append, List.length_cons, List.length_nil] at *
 refine ⟨by omega, fun d => by simp [List.getD], by unfold wrap64; omega, by simp⟩
theorem ixn {α : Type} {l pre : List α} (h : l = pre ++ []) : ¬ (pre.length : Int) < (l.length : Int) := by
 subst h; simp
theorem nn (n : Nat) : (0 : Int) ≤ (n : Int) := Int.natCast_nonneg n
theorem w64 {n : Int} (h0 : -9223372036854775808 ≤ n) (h1 : n < 9223372036854775808) : wrap64 n = n := by unfold wrap64; omega
theorem mn_min (a b : Int) : mn a b = min a b := by unfold mn; omega
theorem mx_max (a b : Int) : mx a b = max a b := by unfold mx; omega
theorem set_app {α : Type} (pre t : List α) (a b : α) : (pre ++ a :: t).set pre.length b = pre ++ b :: t := by simp
theorem app1 {α : Type} (pre : List α) (a : α) (t : List α) : pre ++ a :: t = (pre ++ [a]) ++ t := by simp

/-- The numbers from c on, n of them. -/
def upto : Nat → Int → List Int
 | 0, _ => []
 | n + 1, c => c :: upto n (c + 1)
theorem upto_length : ∀ n c, (upto n c).length = n
 | 0, _ => rfl
 | n + 1, c => by simp [upto, upto_length n]

theorem spec_l1In_eq (a b c : Int) : spec_l1In.f a b c = some (decide (b ≤ a) && decide (a ≤ c)) := by
 unfold spec_l1In.f; split <;> simp <;> omega
theorem impl_isWithin_eq (a b c : Int) : impl_isWithin.f a b c = some (decide (b ≤ a) && decide (a ≤ c)) := by
 unfold impl_isWithin.f; split <;> simp <;> omega
def pSup (n : Int) : Bool := decide (0 ≤ n) && decide (n ≤ 512)
theorem spec_l5Supply_eq (n : Int) : spec_l5Supply.f n = some (pSup n) := by
 simp only [spec_l5Supply.f, spec_l1In_eq, Option.bind_some, pSup]
theorem impl_isSupply_eq (n : Int) : impl_isSupply.f n = some (pSup n) := by
 simp only [impl_isSupply.f, impl_isWithin_eq, Option.bind_some, pSup]
theorem ix2 {α : Type} {l pre t : List α} {p a : α} (h : l = (pre ++ [p]) ++ a :: t) (hl : l.length < 4611686018427387904) :
  (((pre ++ [p]).length : Int)) > 0 ∧ wrap64 (((pre ++ [p]).length : Int) - 1) = (pre.length : Int) ∧ (∀ d, l.getD pre.length d = p) ∧ (pre.length : Int) < (l.length : Int) := by
 subst h
 simp only [List.length_append, List.length_cons, List.length_nil] at *
 refine ⟨by omega, by unfold wrap64; omega, fun d => by simp [List.getD], by omega⟩
theorem ev_eq {α : Type} {f g : Nat → Option α} {r : α} (h : f = g) (k : Ev g r) : Ev f r := h ▸ k
theorem spec_l2Add_eq (a b c d : Int) : spec_l2Add.f a b c d = some (wrap64 (a + c), wrap64 (b + d)) := rfl
theorem laws_toPlace_eq (a b : Int) : laws_toPlace.f a b = some (a, b) := rfl
theorem laws_eqPlace_rfl (a b : Int) : laws_eqPlace.f a b a b = some true := by simp [laws_eqPlace.f]
def rotN : Nat → Int × Int → Int × Int
 | 0, p => p
 | k + 1, p => rotN k (wrap64 (-p.2), p.1)
/-- A place turned by n quarters. -/
def pTurn4 (n : Int) (p : Int × Int) : Int × Int := rotN (n % 4).toNat p
theorem spec_l2Mod_eq (n : Int) : spec_l2Mod.f n = some (n % 4) := by
 unfold spec_l2Mod.f
 have h1 := Int.emod_nonneg n (show (4 : Int) ≠ 0 by omega)
 have h2 := Int.emod_lt_of_pos n (show (0 : Int) < 4 by omega)
 have h3 := Int.tmod_eq_emod_of_nonneg (a := n) (b := 4)
 by_cases h : 0 ≤ n
 ·rw [h3 h, if_neg (by omega)]
 ·have h4 : Int.tmod n 4 = -(Int.tmod (-n) 4) := by rw [Int.neg_tmod, Int.neg_neg]
  have h5 := Int.tmod_eq_emod_of_nonneg (a := -n) (b := 4) (by omega)
  rw [h4, h5]
  split
  ·rw [show wrap64 (-(-n % 4) + 4) = -(-n % 4) + 4 by unfold wrap64; omega]
   congr 1; omega
  ·congr 1; omega
theorem spec_l2Turn_l0 : ∀ (m : Nat) (x y : Int), m < 10 → Ev (fun k => spec_l2Turn.l0 k (m : Int) x y) (rotN m (x, y)) := by
 intro m
 induction m with
 | zero =>
  intro x y _
  refine ev_succ ?_
  simp only [spec_l2Turn.l0, if_neg (show ¬ (((0 : Nat) : Int) > 0) by omega)]
  exact Ev.now _
 | succ m ih =>
  intro x y hm
  refine ev_succ ?_
  simp only [spec_l2Turn.l0, if_pos (show (((m + 1 : Nat) : Int) > 0) by omega)]
  rw [show wrap64 (((m + 1 : Nat) : Int) - 1) = (m : Int) by unfold wrap64; omega]
  exact ih _ _ (by omega)
theorem spec_l2Turn_ev (x y n : Int) : Ev (fun k => spec_l2Turn.f k x y n) (pTurn4 n (x, y)) := by
 unfold spec_l2Turn.f pTurn4
 simp only [spec_l2Mod_eq, Option.bind_some]
 have := spec_l2Turn_l0 (n % 4).toNat x y (by omega)
 rwa [show (((n % 4).toNat : Nat) : Int) = n % 4 by omega] at this
def pHead (h : Int) : Bool := decide (0 ≤ h) && decide (h ≤ 3)
theorem spec_IsHeading_eq (h : Int) : spec_IsHeading.f h = some (pHead h) := by
 unfold spec_IsHeading.f pHead; split <;> simp <;> omega
theorem impl_IsHeading_eq (h : Int) : impl_IsHeading.f h = some (pHead h) := by
 simp only [impl_IsHeading.f, impl_isWithin_eq, Option.bind_some, pHead]
def pMeas (x : Int) : Bool := decide (-4096 ≤ x) && decide (x ≤ 4096)
theorem spec_IsMeasure_eq (x : Int) : spec_IsMeasure.f x = some (pMeas x) := by
 unfold spec_IsMeasure.f pMeas; split <;> simp <;> omega
def pMeas' (x : Int) : Bool := decide (-4096 ≤ x) && decide (x ≤ 4096)
theorem impl_IsMeasure_eq (x : Int) : impl_IsMeasure.f x = some (pMeas' x) := by
 simp only [impl_IsMeasure.f, impl_isWithin_eq, Option.bind_some, pMeas']
def pPlace (x y : Int) : Bool := (decide (-4096 ≤ x) && decide (x ≤ 4096)) && (decide (-4096 ≤ y) && decide (y ≤ 4096))
theorem spec_IsPlace_eq (x y : Int) : spec_IsPlace.f x y = some (pPlace x y) := by
 simp only [spec_IsPlace.f, spec_IsMeasure_eq, Option.bind_some, pPlace, pMeas]
 cases (decide (-4096 ≤ x) && decide (x ≤ 4096)) <;> simp
theorem impl_IsPlace_eq (x y : Int) : impl_IsPlace.f x y = some (pPlace x y) := by
 simp only [impl_IsPlace.f, impl_IsMeasure_eq, Option.bind_some, pPlace, pMeas']
 cases (decide (-4096 ≤ x) && decide (x ≤ 4096)) <;> simp
theorem pTurn4_cases (n : Int) : (n % 4 = 0 ∧ ∀ x y : Int, (-1000000 ≤ x ∧ x ≤ 1000000) ∧ (-1000000 ≤ y ∧ y ≤ 1000000) → pTurn4 n (x, y) = (x, y)) ∨ (n % 4 = 1 ∧ ∀ x y : Int, (-1000000 ≤ x ∧ x ≤ 1000000) ∧ (-1000000 ≤ y ∧ y ≤ 1000000) → pTurn4 n (x, y) = (-y, x)) ∨
  (n % 4 = 2 ∧ ∀ x y : Int, (-1000000 ≤ x ∧ x ≤ 1000000) ∧ (-1000000 ≤ y ∧ y ≤ 1000000) → pTurn4 n (x, y) = (-x, -y)) ∨ (n % 4 = 3 ∧ ∀ x y : Int, (-1000000 ≤ x ∧ x ≤ 1000000) ∧ (-1000000 ≤ y ∧ y ≤ 1000000) → pTurn4 n (x, y) = (y, -x)) := by
 have h : n % 4 = 0 ∨ n % 4 = 1 ∨ n % 4 = 2 ∨ n % 4 = 3 := by omega
 rcases h with h | h | h | h
 ·exact .inl ⟨h, fun x y _ => by rw [pTurn4, h]; rfl⟩
 ·refine .inr (.inl ⟨h, fun x y hb => ?_⟩)
  rw [pTurn4, h, show ((1 : Int)).toNat = 1 from rfl]
  simp only [rotN, Prod.mk.injEq]
  exact ⟨by unfold wrap64; omega, trivial⟩
 ·refine .inr (.inr (.inl ⟨h, fun x y hb => ?_⟩))
  rw [pTurn4, h, show ((2 : Int)).toNat = 2 from rfl]
  simp only [rotN, Prod.mk.injEq]
  exact ⟨by unfold wrap64; omega, by unfold wrap64; omega⟩
 ·refine .inr (.inr (.inr ⟨h, fun x y hb => ?_⟩))
  rw [pTurn4, h, show ((3 : Int)).toNat = 3 from rfl]
  simp only [rotN, Prod.mk.injEq]
  exact ⟨by unfold wrap64; omega, by unfold wrap64; omega⟩
theorem pTurn4_bound (n : Int) {x y B : Int} (hB : B ≤ 1000000) (h : (-B ≤ x ∧ x ≤ B) ∧ (-B ≤ y ∧ y ≤ B)) : (-B ≤ (pTurn4 n (x, y)).1 ∧ (pTurn4 n (x, y)).1 ≤ B) ∧ (-B ≤ (pTurn4 n (x, y)).2 ∧ (pTurn4 n (x, y)).2 ≤ B) := by
 rcases pTurn4_cases n with ⟨_, e⟩ | ⟨_, e⟩ | ⟨_, e⟩ | ⟨_, e⟩
 all_goals
  rw [e x y (by omega)]
  omega
theorem pTurn4_add (n : Int) {x y u v : Int} (h : (-100000 ≤ x ∧ x ≤ 100000) ∧ (-100000 ≤ y ∧ y ≤ 100000)) (k : (-100000 ≤ u ∧ u ≤ 100000) ∧ (-100000 ≤ v ∧ v ≤ 100000)) :
  pTurn4 n (x + u, y + v) = ((pTurn4 n (x, y)).1 + (pTurn4 n (u, v)).1, (pTurn4 n (x, y)).2 + (pTurn4 n (u, v)).2) := by
 rcases pTurn4_cases n with ⟨_, e⟩ | ⟨_, e⟩ | ⟨_, e⟩ | ⟨_, e⟩
 all_goals
  rw [e x y (by omega), e u v (by omega), e (x + u) (y + v) (by omega)]
  (try (apply Prod.ext <;> (try dsimp only) <;> omega))
theorem pTurn4_back (n m : Int) (hm : (n + m) % 4 = 0) {x y : Int} (h : (-100000 ≤ x ∧ x ≤ 100000) ∧ (-100000 ≤ y ∧ y ≤ 100000)) : pTurn4 m (pTurn4 n (x, y)) = (x, y) := by
 rcases pTurn4_cases n with ⟨hn, e⟩ | ⟨hn, e⟩ | ⟨hn, e⟩ | ⟨hn, e⟩ <;> rcases pTurn4_cases m with ⟨hk, e'⟩ | ⟨hk, e'⟩ | ⟨hk, e'⟩ | ⟨hk, e'⟩
 all_goals first
  | (exfalso; omega)
  | (rw [e x y (by omega), e' _ _ (by omega)]; try (apply Prod.ext <;> (try dsimp only) <;> omega))
theorem back_turns (n : Int) : (n + wrap64 (4 - Int.tmod n 4)) % 4 = 0 := by
 have : -3 ≤ Int.tmod n 4 ∧ Int.tmod n 4 ≤ 3 ∧ (n - Int.tmod n 4) % 4 = 0 := by
  by_cases h : 0 ≤ n
  ·rw [Int.tmod_eq_emod_of_nonneg h]; omega
  ·have h4 : Int.tmod n 4 = -(-n % 4) := by
    rw [← Int.tmod_eq_emod_of_nonneg (a := -n) (b := 4) (by omega), Int.neg_tmod, Int.neg_neg]
   rw [h4]; omega
 rw [show wrap64 (4 - Int.tmod n 4) = 4 - Int.tmod n 4 by unfold wrap64; omega]
 omega
def nmC (b : Int) (i : Nat) : Bool := (decide (97 ≤ b) && decide (b ≤ 122)) || ((decide (48 ≤ b) && decide (b ≤ 57)) && !decide (i = 0))
def nmR (a : ByteArray) : Nat → Nat → Bool
 | 0, _ => decide (1 ≤ (a.size : Int)) && decide ((a.size : Int) ≤ 8)
 | d + 1, i => nmC (bt a (i : Int)) i && nmR a d (i + 1)
def pName (a : ByteArray) : Bool := nmR a a.size 0
theorem spec_IsName_l0 (a : ByteArray) (ha : a.size ≤ 9223372036854775807) : ∀ (d i : Nat), i + d = a.size → Ev (fun k => spec_IsName.l0 k a (i : Int)) (nmR a d i) := by
 intro d
 induction d with
 | zero =>
  intro i h
  refine ev_succ ?_
  simp only [spec_IsName.l0, if_neg (show ¬ ((i : Int) < (a.size : Int)) by omega), nmR]
  refine ev_ite (fun c => ?_) (fun c => ?_)
  ·rw [decide_eq_true (show 1 ≤ (a.size : Int) by omega), Bool.true_and]; exact Ev.now _
  ·rw [decide_eq_false (show ¬ 1 ≤ (a.size : Int) by omega), Bool.false_and]; exact Ev.now _
 | succ d ih =>
  intro i h
  have ih' := ih (i + 1) (by omega)
  refine ev_succ ?_
  simp only [spec_IsName.l0, if_pos (show ((i : Int) < (a.size : Int)) by omega), if_pos (nn _), nmR]
  rw [show wrap64 ((i : Int) + 1) = ((i + 1 : Nat) : Int) by unfold wrap64; omega]
  generalize bt a (i : Int) = b
  have hi : ((i : Int) = 0) = (i = 0) := by simp
  simp only [nmC, hi]
  by_cases h1 : 97 ≤ b <;> by_cases h2 : b ≤ 122 <;> by_cases h3 : 48 ≤ b <;> by_cases h4 : b ≤ 57 <;> by_cases h5 : i = 0 <;> first | (exfalso; omega) | skip
  all_goals simp only [ge_iff_le, h1, h2, h3, h4, h5, decide_true, decide_false, Bool.true_and, Bool.false_and, Bool.and_true, Bool.and_false, Bool.or_true, Bool.true_or, Bool.or_false, Bool.false_or, Bool.not_true, Bool.not_false, if_true, if_false]
  all_goals first | exact Ev.now _ | exact ih' | (subst h5; exact ih')
theorem spec_IsName_ev (a : ByteArray) (ha : a.size ≤ 9223372036854775807) : Ev (fun k => spec_IsName.f k a) (pName a) := spec_IsName_l0 a ha a.size 0 (by omega)
theorem impl_IsName_l0 (a : ByteArray) (ha : a.size ≤ 9223372036854775807) : ∀ (d i : Nat), i + d = a.size → Ev (fun k => impl_IsName.l0 k a (a.size : Int) (i : Int)) (nmR a d i) := by
 intro d
 induction d with
 | zero =>
  intro i h
  refine ev_succ ?_
  simp only [impl_IsName.l0, if_neg (show ¬ ((i : Int) < (a.size : Int)) by omega), nmR, impl_isWithin_eq, Option.bind_some]
  exact Ev.now _
 | succ d ih =>
  intro i h
  have ih' := ih (i + 1) (by omega)
  refine ev_succ ?_
  simp only [impl_IsName.l0, if_pos (show ((i : Int) < (a.size : Int)) by omega), if_pos (nn _), nmR]
  rw [show wrap64 ((i : Int) + 1) = ((i + 1 : Nat) : Int) by unfold wrap64; omega]
  generalize bt a (i : Int) = b
  have hi : ((i : Int) = 0) = (i = 0) := by simp
  simp only [nmC, hi, gt_iff_lt, ← Int.not_le]
  by_cases h1 : 97 ≤ b <;> by_cases h2 : b ≤ 122 <;> by_cases h3 : 48 ≤ b <;> by_cases h4 : b ≤ 57 <;> by_cases h5 : i = 0 <;> first | (exfalso; omega) | skip
  all_goals simp only [ge_iff_le, h1, h2, h3, h4, h5, not_true_eq_false, not_false_eq_true, decide_true, decide_false, Bool.true_and, Bool.false_and, Bool.and_true, Bool.and_false, Bool.or_true, Bool.true_or, Bool.or_false, Bool.false_or, Bool.not_true, Bool.not_false, if_true, if_false]
  all_goals first | exact Ev.now _ | exact ih' | (subst h5; exact ih')
theorem impl_IsName_ev (a : ByteArray) (ha : a.size ≤ 9223372036854775807) : Ev (fun k => impl_IsName.f k a) (pName a) := impl_IsName_l0 a ha a.size 0 (by omega)
theorem laws_markText_l0 : ∀ (d : Nat) (n : Int) (s : ByteArray), 0 ≤ n → n < 10 ^ d → s.size + d ≤ 1000 → ∃ r, Ev (fun k => laws_markText.l0 k n s) r := by
 intro d
 induction d with
 | zero =>
  intro n s h0 h1 h2
  have : n = 0 := by simp at h1; omega
  subst this
  refine ⟨(⟨#[109]⟩ : ByteArray) ++ s, ev_succ ?_⟩
  simp only [laws_markText.l0, if_neg (show ¬ ((0 : Int) > 0) by omega), if_pos (show 1 + s.size ≤ 9223372036854775807 by omega)]
  exact Ev.now _
 | succ d ih =>
  intro n s h0 h1 h2
  by_cases hn : n > 0
  ·have ht : Int.tdiv n 10 = n / 10 := Int.tdiv_eq_ediv_of_nonneg h0
   have hs : ∀ x : Int, (strOfNums [x]).size = 1 := fun x => rfl
   have h3 : n / 10 < 10 ^ d := by
    rw [Int.pow_succ] at h1
    generalize (10 : Int) ^ d = q at *
    omega
   by_cases hb : n / 10 < 9223372036854775808
   ·obtain ⟨r, e⟩ := ih (n / 10) (strOfNums [(wrap64 (48 + (Int.tmod n 10))) % 256] ++ s) (by omega) h3 (by rw [ByteArray.size_append, hs]; omega)
    refine ⟨r, ev_succ ?_⟩
    simp only [laws_markText.l0, if_pos hn, Option.bind_some, hs, if_pos (show 1 + s.size ≤ 9223372036854775807 by omega), ht]
    rw [show wrap64 (n / 10) = n / 10 by unfold wrap64; omega]
    exact e
   ·obtain ⟨r, e⟩ : ∃ r, Ev (fun k => laws_markText.l0 k (wrap64 (n / 10)) (strOfNums [(wrap64 (48 + (Int.tmod n 10))) % 256] ++ s)) r := by
     have : ¬ (wrap64 (n / 10) > 0 ∧ wrap64 (n / 10) ≥ 10 ^ d) ∨ True := .inr trivial
     clear this
     by_cases hp : wrap64 (n / 10) > 0
     ·refine ih _ _ (by omega) ?_ (by rw [ByteArray.size_append, hs]; omega)
      have : wrap64 (n / 10) ≤ n / 10 := by unfold wrap64; omega
      omega
     ·refine ⟨(⟨#[109]⟩ : ByteArray) ++ (strOfNums [(wrap64 (48 + (Int.tmod n 10))) % 256] ++ s), ev_succ ?_⟩
      simp only [laws_markText.l0, if_neg hp, ByteArray.size_append, hs, if_pos (show 1 + (1 + s.size) ≤ 9223372036854775807 by omega)]
      exact Ev.now _
    refine ⟨r, ev_succ ?_⟩
    simp only [laws_markText.l0, if_pos hn, Option.bind_some, hs, if_pos (show 1 + s.size ≤ 9223372036854775807 by omega), ht]
    exact e
  ·refine ⟨(⟨#[109]⟩ : ByteArray) ++ s, ev_succ ?_⟩
   simp only [laws_markText.l0, if_neg hn, if_pos (show 1 + s.size ≤ 9223372036854775807 by omega)]
   exact Ev.now _
theorem laws_markText_ex (n : Int) (h : n < 1000000000000000000000000000000) : ∃ r, Ev (fun k => laws_markText.f k n) r := by
 by_cases h0 : n ≤ 0
 ·refine ⟨(⟨#[109, 48]⟩ : ByteArray), ?_⟩
  simp only [laws_markText.f, if_pos h0]
  exact Ev.now _
 ·obtain ⟨r, e⟩ := laws_markText_l0 30 n ⟨#[]⟩ (by omega) (by simpa using h) (by decide)
  refine ⟨r, ?_⟩
  simp only [laws_markText.f, if_neg h0]
  exact e
/-- The mark's text. -/
noncomputable def mtT (n : Int) : ByteArray := @dite _ (∃ r, Ev (fun k => laws_markText.f k n) r) (Classical.propDecidable _) (fun h => Classical.choose h) (fun _ => ByteArray.empty)
theorem mtT_ev (n : Int) (h : n < 4611686018427387904) : Ev (fun k => laws_markText.f k n) (mtT n) := by
 have h' := laws_markText_ex n (by omega)
 rw [mtT, dif_pos h']
 exact Classical.choose_spec h'
def i16 (a lo hi : Int) : Bool := decide (lo ≤ a) && decide (a ≤ hi)
def pJet (a b c d e : Int) : Bool := i16 a (-1024) 1024 && (i16 b (-1024) 1024 && (pHead c && (i16 d 0 16 && i16 e 1 32)))
def pLineOk (n l : ByteArray) : Bool := pName l && !(l.toList == n.toList)
/-- IsDevice -/
def pDevice (n : ByteArray) (k : Int) (l : ByteArray) (a b c d e : Int) : Bool :=
 pName n && (if k = 1 then pSup e && (l.toList == ([] : List UInt8) && ((a == 0 && (b == 0)) && (c == 0 && (d == 0))))
  else if k = 2 then pLineOk n l && (pJet a b c d 1 && i16 e 0 32)
  else if k = 3 then pLineOk n l && (pPlace a b && (c == 0 && (d == 0 && (e == 0)))) else false)
theorem ev_and {c : Bool} {f : Nat → Option Bool} {b : Bool} (h : c = true → Ev f b) : Ev (fun k => if c = true then f k else some false) (c && b) := by
 cases c
 ·simp only [Bool.false_eq_true, if_false, Bool.false_and]; exact Ev.now _
 ·simp only [if_true, Bool.true_and]; exact h rfl
theorem so_and (c b : Bool) : (if c = true then some b else some false) = some (c && b) := by cases c <;> rfl
theorem spec_IsJet_eq (a b c d e : Int) : spec_IsJet.f a b c d e = some (pJet a b c d e) := by
 simp only [spec_IsJet.f, spec_l1In_eq, spec_IsHeading_eq, Option.bind_some, pJet, i16, so_and]
theorem spec_IsDevice_ev (n : ByteArray) (k : Int) (l : ByteArray) (a b c d e : Int) (hn : n.size ≤ 9223372036854775807) (hl : l.size ≤ 9223372036854775807) : Ev (fun q => spec_IsDevice.f q n k l a b c d e) (pDevice n k l a b c d e) := by
 have j : ∀ x : Bool, x = pLineOk n l → Ev (fun q => spec_IsDevice.j0 q x n k l a b c d e) (pDevice n k l a b c d e) := by
  intro x hx
  refine ev_succ ?_
  simp only [spec_IsDevice.j0, spec_l6Jet.f, spec_IsJet_eq, spec_l5Supply_eq, spec_IsPlace_eq, spec_l1In_eq, Option.bind_some, so_and]
  refine Ev.bind (spec_IsName_ev n hn) ?_
  rw [pDevice, hx]
  refine ev_and (fun _ => ?_)
  refine ev_ite (fun h => ?_) (fun h => ?_)
  ·rw [if_pos h]; exact Ev.now _
  ·rw [if_neg h]
   refine ev_ite (fun h => ?_) (fun h => ?_)
   ·rw [if_pos h]; exact Ev.now _
   ·rw [if_neg h]
    refine ev_ite (fun h => ?_) (fun h => ?_)
    ·rw [if_pos h]; exact Ev.now _
    ·rw [if_neg h]; exact Ev.now _
 unfold spec_IsDevice.f
 refine Ev.bind (spec_IsName_ev l hl) ?_
 refine ev_ite (fun h => ?_) (fun h => ?_)
 ·refine j _ ?_
  rw [pLineOk, h, Bool.true_and]; rfl
 ·refine j _ ?_
  rw [pLineOk, Bool.eq_false_iff.2 h, Bool.false_and]
theorem impl_IsJet_eq (a b c d e : Int) : impl_IsJet.f a b c d e = some (pJet a b c d e) := by
 simp only [impl_IsJet.f, impl_isWithin_eq, impl_IsHeading_eq, Option.bind_some, pJet, i16, so_and]
theorem impl_IsDevice_ev (n : ByteArray) (k : Int) (l : ByteArray) (a b c d e : Int) (hn : n.size ≤ 9223372036854775807) (hl : l.size ≤ 9223372036854775807) : Ev (fun q => impl_IsDevice.f q n k l a b c d e) (pDevice n k l a b c d e) := by
 simp only [impl_IsDevice.f, impl_IsJet_eq, impl_isSupply_eq, impl_IsPlace_eq, impl_isWithin_eq, Option.bind_some, so_and]
 refine Ev.bind (impl_IsName_ev n hn) ?_
 rw [pDevice]
 refine ev_and (fun _ => ?_)
 refine ev_ite (fun h => ?_) (fun h => ?_)
 ·rw [if_pos h, Bool.and_comm]; exact Ev.now _
 ·rw [if_neg h]
  refine ev_ite (fun h => ?_) (fun h => ?_)
  ·rw [if_pos h]
   refine Ev.bind (impl_IsName_ev l hl) ?_
   rw [pLineOk, Bool.and_assoc]
   refine ev_and (fun _ => ?_)
   by_cases e : l.toList = n.toList
   ·simp only [if_pos e, e, beq_self_eq_true, Bool.not_true, Bool.false_and]; exact Ev.now _
   ·simp only [if_neg e, beq_eq_false_iff_ne.2 e, Bool.not_false, Bool.true_and]; exact Ev.now _
  ·rw [if_neg h]
   refine ev_ite (fun h => ?_) (fun h => ?_)
   ·rw [if_pos h]
    rw [show (pLineOk n l && (pPlace a b && (c == 0 && (d == 0 && (e == 0))))) = ((c == 0 && (d == 0 && (e == 0))) && (pLineOk n l && pPlace a b)) by cases pLineOk n l <;> cases pPlace a b <;> cases (c == 0 && (d == 0 && (e == 0))) <;> rfl]
    refine ev_and (fun _ => ?_)
    refine Ev.bind (impl_IsName_ev l hl) ?_
    rw [pLineOk, Bool.and_assoc]
    refine ev_and (fun _ => ?_)
    by_cases e : l.toList = n.toList
    ·simp only [if_pos e, e, beq_self_eq_true, Bool.not_true, Bool.false_and]; exact Ev.now _
    ·simp only [if_neg e, beq_eq_false_iff_ne.2 e, Bool.not_false, Bool.true_and]; exact Ev.now _
   ·rw [if_neg h]; exact Ev.now _
abbrev De := S30
abbrev LDe := S25
def dIdx (x : ByteArray) : List De → Int → Int
 | [], _ => -1
 | a :: t, i => if a.f0.toList = x.toList then i else dIdx x t (i + 1)
/-- FindDevice -/
def pFind (l : List De) (x : ByteArray) : Int := dIdx x l 0
theorem dIdx_range (x : ByteArray) : ∀ (l : List De) (i : Int), dIdx x l i = -1 ∨ (i ≤ dIdx x l i ∧ dIdx x l i < i + l.length)
 | [], _ => .inl rfl
 | a :: t, i => by
  rw [dIdx]
  by_cases c : a.f0.toList = x.toList
  ·rw [if_pos c]; right; simp; omega
  ·rw [if_neg c]
   rcases dIdx_range x t (i + 1) with h | h
   ·exact .inl h
   ·right; simp at h ⊢; omega
theorem pFind_range (l : List De) (x : ByteArray) : pFind l x = -1 ∨ (0 ≤ pFind l x ∧ pFind l x < l.length) := by
 have := dIdx_range x l 0
 unfold pFind; omega
theorem spec_FindDevice_l0 (l : List De) (x : ByteArray) (hl : l.length < 1099511627776) : ∀ (suf pre : List De), l = pre ++ suf →
  Ev (fun k => spec_FindDevice.l0 k x l (l.length : Int) (pre.length : Int)) (dIdx x suf (pre.length : Int)) := by
 intro suf
 induction suf with
 | nil =>
  intro pre h
  refine ev_succ ?_
  simp only [spec_FindDevice.l0, if_neg (ixn h)]
  exact Ev.now _
 | cons a s ih =>
  intro pre h
  obtain ⟨h1, h2, h3, h4⟩ := ix h (by omega)
  refine ev_succ ?_
  simp only [spec_FindDevice.l0, if_pos h1, if_pos (nn _), Int.toNat_natCast, rd_T30, h2, h3]
  rw [dIdx]
  refine ev_ite (fun c => ?_) (fun c => ?_)
  ·rw [if_pos c]; exact Ev.now _
  ·rw [if_neg c]
   have := ih _ h4
   rwa [show ((pre ++ [a]).length : Int) = (pre.length : Int) + 1 by simp] at this ⊢
theorem spec_FindDevice_ev (l : List De) (x : ByteArray) (hl : l.length < 1099511627776) : Ev (fun k => spec_FindDevice.f k l x) (pFind l x) := spec_FindDevice_l0 l x hl l [] rfl
theorem impl_FindDevice_l0 (l : List De) (x : ByteArray) (hl : l.length < 1099511627776) : ∀ (suf pre : List De), l = pre ++ suf →
  Ev (fun k => impl_FindDevice.l0 k x l (l.length : Int) (pre.length : Int)) (dIdx x suf (pre.length : Int)) := by
 intro suf
 induction suf with
 | nil =>
  intro pre h
  refine ev_succ ?_
  simp only [impl_FindDevice.l0, if_neg (ixn h)]
  exact Ev.now _
 | cons a s ih =>
  intro pre h
  obtain ⟨h1, h2, h3, h4⟩ := ix h (by omega)
  refine ev_succ ?_
  simp only [impl_FindDevice.l0, if_pos h1, if_pos (nn _), Int.toNat_natCast, rd_T30, h2, h3]
  rw [dIdx]
  refine ev_ite (fun c => ?_) (fun c => ?_)
  ·rw [if_pos c]; exact Ev.now _
  ·rw [if_neg c]
   have := ih _ h4
   rwa [show ((pre ++ [a]).length : Int) = (pre.length : Int) + 1 by simp] at this ⊢
theorem impl_FindDevice_ev (l : List De) (x : ByteArray) (hl : l.length < 1099511627776) : Ev (fun k => impl_FindDevice.f k l x) (pFind l x) := impl_FindDevice_l0 l x hl l [] rfl
theorem laws_toDevice_eq (n : ByteArray) (k : Int) (l : ByteArray) (a b c d e : Int) : laws_toDevice.f n k l a b c d e = some (n, k, l, a, b, c, d, e) := rfl
def cvD (g : LDe) : De := ⟨g.f0, g.f1, g.f2, ⟨g.f3.f0, g.f3.f1⟩, g.f4, g.f5, g.f6⟩
theorem laws_toDeviceS_l0 (l : List LDe) (hl : l.length < 1099511627776) : ∀ (suf pre : List LDe), l = pre ++ suf →
  Ev (fun k => laws_toDeviceS.l0 k l (pre.map cvD ++ List.replicate suf.length z30) (pre.length : Int)) (l.map cvD) := by
 intro suf
 induction suf with
 | nil =>
  intro pre h
  refine ev_succ ?_
  simp only [laws_toDeviceS.l0, if_neg (ixn h)]
  simpa [h] using Ev.now (l.map cvD)
 | cons a t ih =>
  intro pre h
  obtain ⟨h1, h2, h3, h4⟩ := ix h (by omega)
  refine ev_succ ?_
  have h5 : (pre.length : Int) < ((pre.map cvD ++ List.replicate (a :: t).length z30).length : Int) := by simp; omega
  simp only [laws_toDeviceS.l0, if_pos h1, if_pos (nn _), laws_toDevice_eq, Option.bind_some, if_pos h5, Int.toNat_natCast, rd_T25, h2, h3]
  have := ih (pre ++ [a]) h4
  have hp : pre.length = (pre.map cvD).length := by simp
  rw [List.length_cons, List.replicate_succ, hp, set_app]
  simpa [cvD] using this
theorem laws_toDeviceS_ev (l : List LDe) (hl : l.length < 1099511627776) : Ev (fun k => laws_toDeviceS.f k l) (l.map cvD) := by
 have := laws_toDeviceS_l0 l hl l [] rfl
 simp only [laws_toDeviceS.f, if_pos (nn _), Int.toNat_natCast, if_pos (show l.length ≤ 3518437208883 by omega)]
 simpa using this
theorem laws_eqDevice_rfl (n : ByteArray) (k : Int) (l : ByteArray) (a b c d e : Int) : laws_eqDevice.f n k l a b c d e n k l a b c d e = some true := by simp [laws_eqDevice.f, laws_eqPlace_rfl]
theorem laws_eqDeviceS_l0 (x : List De) (hl : x.length < 1099511627776) : ∀ (d i : Nat), i + d = x.length → Ev (fun k => laws_eqDeviceS.l0 k x x (i : Int)) true := by
 intro d
 induction d with
 | zero =>
  intro i h
  refine ev_succ ?_
  simp only [laws_eqDeviceS.l0, if_neg (show ¬ ((i : Int) < (x.length : Int)) by omega)]
  exact Ev.now _
 | succ d ih =>
  intro i h
  refine ev_succ ?_
  simp only [laws_eqDeviceS.l0, if_pos (show ((i : Int) < (x.length : Int)) by omega), if_pos (nn _), laws_eqDevice_rfl, Option.bind_some, if_true]
  rw [show wrap64 ((i : Int) + 1) = ((i + 1 : Nat) : Int) by unfold wrap64; omega]
  exact ih (i + 1) (by omega)
theorem laws_eqDeviceS_rfl (x : List De) (hl : x.length < 1099511627776) : Ev (fun k => laws_eqDeviceS.f k x x) true := by
 simp only [laws_eqDeviceS.f, if_true]
 exact laws_eqDeviceS_l0 x hl x.length 0 (by omega)
theorem laws_szDevice_eq (n : ByteArray) (k : Int) (l : ByteArray) (a b c d e m : Int) (h0 : 0 ≤ m) (h1 : m ≤ 1048576) (hn : n.size ≤ maxLen) (hl : l.size ≤ maxLen) :
  ∃ r, r ≤ 1048576 ∧ laws_szDevice.f n k l a b c d e m = some r := by
 have hn' : (n.size : Int) ≤ 9223372036854775807 := by have : maxLen = 9223372036854775807 := rfl; omega
 have hl' : (l.size : Int) ≤ 9223372036854775807 := by have : maxLen = 9223372036854775807 := rfl; omega
 have hw : wrap64 (m - (n.size : Int)) = m - (n.size : Int) := by unfold wrap64; omega
 simp only [laws_szDevice.f, hw]
 by_cases c1 : m - (n.size : Int) < 0
 ·exact ⟨-1, by omega, by rw [if_pos c1]⟩
 ·rw [if_neg c1]
  have hw2 : wrap64 (m - (n.size : Int) - (l.size : Int)) = m - (n.size : Int) - (l.size : Int) := by unfold wrap64; omega
  rw [hw2]
  by_cases c2 : m - (n.size : Int) - (l.size : Int) < 0
  ·exact ⟨-1, by omega, by rw [if_pos c2]⟩
  ·exact ⟨m - (n.size : Int) - (l.size : Int), by omega, by rw [if_neg c2]⟩
theorem laws_szDeviceS_l0 (l : List LDe) (hl : l.length < 1099511627776) (hz : ∀ x ∈ l, x.f0.size ≤ maxLen ∧ x.f2.size ≤ maxLen) : ∀ (suf pre : List LDe) (n : Int), l = pre ++ suf → 0 ≤ n → n ≤ 1048576 →
  ∃ r, r ≤ 1048576 ∧ Ev (fun k => laws_szDeviceS.l0 k l n (pre.length : Int)) r := by
 intro suf
 induction suf with
 | nil =>
  intro pre n h h0 h1
  refine ⟨n, h1, ev_succ ?_⟩
  simp only [laws_szDeviceS.l0, if_neg (ixn h)]
  exact Ev.now _
 | cons a t ih =>
  intro pre n h h0 h1
  obtain ⟨g1, g2, g3, g4⟩ := ix h (by omega)
  have ha := hz a (by simp [h])
  obtain ⟨m, hm, em⟩ := laws_szDevice_eq a.f0 a.f1 a.f2 a.f3.f0 a.f3.f1 a.f4 a.f5 a.f6 n h0 h1 ha.1 ha.2
  by_cases hc : m < 0
  ·refine ⟨-1, by omega, ev_succ ?_⟩
   simp only [laws_szDeviceS.l0, if_pos g1, if_pos (nn _), Int.toNat_natCast, rd_T25, g2, em, Option.bind_some, if_pos hc]
   exact Ev.now _
  ·obtain ⟨r, hr, e⟩ := ih (pre ++ [a]) m g4 (by omega) (by omega)
   refine ⟨r, hr, ev_succ ?_⟩
   simp only [laws_szDeviceS.l0, if_pos g1, if_pos (nn _), Int.toNat_natCast, rd_T25, g2, g3, em, Option.bind_some, if_neg hc]
   exact e
theorem laws_szDeviceS_ev (l : List LDe) (n : Int) (hn : 0 ≤ n) (hn2 : n ≤ 1048576) (hl : l.length ≤ maxLen) (hz : ∀ x ∈ l, x.f0.size ≤ maxLen ∧ x.f2.size ≤ maxLen) :
  ∃ r, r ≤ 1048576 ∧ (0 ≤ r → l.length < 1099511627776) ∧ Ev (fun k => laws_szDeviceS.f k l n) r := by
 have hl' : (l.length : Int) ≤ 9223372036854775807 := by have : maxLen = 9223372036854775807 := rfl; omega
 by_cases hc : n - (l.length : Int) < 0
 ·refine ⟨-1, by omega, by omega, ?_⟩
  simp only [laws_szDeviceS.f]
  rw [show wrap64 (n - (l.length : Int)) = n - (l.length : Int) by unfold wrap64; omega]
  simp only [if_pos hc]; exact Ev.now _
 ·obtain ⟨r, hr, e⟩ := laws_szDeviceS_l0 l (by omega) hz l [] (n - (l.length : Int)) rfl (by omega) (by omega)
  refine ⟨r, hr, fun _ => by omega, ?_⟩
  simp only [laws_szDeviceS.f]
  rw [show wrap64 (n - (l.length : Int)) = n - (l.length : Int) by unfold wrap64; omega]
  simp only [if_neg hc]; exact e
def szD (l : List De) : Prop := ∀ c ∈ l, c.f0.size ≤ 9223372036854775807 ∧ c.f2.size ≤ 9223372036854775807
theorem szD_mid {l pre t : List De} {a : De} (h : szD l) (e : l = pre ++ a :: t) : a.f0.size ≤ 9223372036854775807 ∧ a.f2.size ≤ 9223372036854775807 := h a (by simp [e])
def dOk (d : De) : Bool := pDevice d.f0 d.f1 d.f2 d.f3.f0 d.f3.f1 d.f4 d.f5 d.f6
/-- The line of a device names such a device as it has to. -/
def pHung (l : List De) (d : De) : Bool := if d.f1 = 1 then true else if 0 ≤ pFind l d.f2 then ((l.getD (pFind l d.f2).toNat z30).f1 == d.f1 - 1) else false
theorem dOk_kind {d : De} (h : dOk d = true) : d.f1 = 1 ∨ d.f1 = 2 ∨ d.f1 = 3 := by
 unfold dOk pDevice at h
 by_cases h1 : d.f1 = 1
 ·exact .inl h1
 ·by_cases h2 : d.f1 = 2
  ·exact .inr (.inl h2)
  ·by_cases h3 : d.f1 = 3
   ·exact .inr (.inr h3)
   ·rw [if_neg h1, if_neg h2, if_neg h3, Bool.and_false] at h; cases h
def gRest (l : List De) : De → List De → Bool
 | _, [] => true
 | p, q :: t => dOk q && (Op.bytesLess p.f0.toList q.f0.toList && (pHung l q && gRest l q t))
def gAll (l : List De) : List De → Bool
 | [] => true
 | q :: t => dOk q && (pHung l q && gRest l q t)
/-- IsRig -/
def pRig (l : List De) : Bool := gAll l l && decide ((l.length : Int) ≤ 8)
theorem pRig_len {l : List De} (h : pRig l = true) : l.length ≤ 8 := by
 simp only [pRig, Bool.and_eq_true, decide_eq_true_eq] at h; omega
theorem spec_l6Hangs_ev (l : List De) (d : De) (hl : l.length < 1099511627776) (hd : dOk d = true) : Ev (fun k => spec_l6Hangs.f k l d.f0 d.f1 d.f2 d.f3.f0 d.f3.f1 d.f4 d.f5 d.f6) (pHung l d) := by
 unfold spec_l6Hangs.f
 refine Ev.bind (spec_FindDevice_ev l d.f2 hl) ?_
 unfold pHung
 rcases dOk_kind hd with h | h | h
 ·simp only [h, if_neg (show ¬ (1 : Int) = 2 by omega), if_neg (show ¬ (1 : Int) = 3 by omega), if_true]; exact Ev.now _
 ·simp only [h, if_true, if_neg (show ¬ (2 : Int) = 1 by omega)]
  refine ev_ite (fun c => ?_) (fun c => ?_)
  ·have := pFind_range l d.f2
   simp only [if_pos (show 0 ≤ pFind l d.f2 from c), if_pos (show pFind l d.f2 < (l.length : Int) by omega), rd_T30]
   exact Ev.now _
  ·rw [if_neg (show ¬ 0 ≤ pFind l d.f2 from c)]; exact Ev.now _
 ·simp only [h, if_true, if_neg (show ¬ (3 : Int) = 1 by omega), if_neg (show ¬ (3 : Int) = 2 by omega)]
  refine ev_ite (fun c => ?_) (fun c => ?_)
  ·have := pFind_range l d.f2
   simp only [if_pos (show 0 ≤ pFind l d.f2 from c), if_pos (show pFind l d.f2 < (l.length : Int) by omega), rd_T30]
   exact Ev.now _
  ·rw [if_neg (show ¬ 0 ≤ pFind l d.f2 from c)]; exact Ev.now _
theorem impl_isHung_ev (l : List De) (d : De) (hl : l.length < 1099511627776) (hd : dOk d = true) : Ev (fun k => impl_isHung.f k l d.f0 d.f1 d.f2 d.f3.f0 d.f3.f1 d.f4 d.f5 d.f6) (pHung l d) := by
 unfold impl_isHung.f pHung
 refine ev_ite (fun c => ?_) (fun c => ?_)
 ·rw [if_pos c]; exact Ev.now _
 ·rw [if_neg c]
  refine Ev.bind (impl_FindDevice_ev l d.f2 hl) ?_
  have hk := dOk_kind hd
  have hw : wrap64 (d.f1 - 1) = d.f1 - 1 := by unfold wrap64; omega
  rw [hw]
  refine ev_ite (fun c => ?_) (fun c => ?_)
  ·have := pFind_range l d.f2
   simp only [if_pos (show 0 ≤ pFind l d.f2 from c), if_pos (show pFind l d.f2 < (l.length : Int) by omega), rd_T30]
   exact Ev.now _
  ·rw [if_neg (show ¬ 0 ≤ pFind l d.f2 from c)]; exact Ev.now _
theorem spec_IsRig_l0 (l : List De) (hl : l.length < 1099511627776) (hz : szD l) : ∀ (suf pre : List De) (p : De), l = (pre ++ [p]) ++ suf →
  Ev (fun k => spec_IsRig.l0 k l l (l.length : Int) ((pre ++ [p]).length : Int)) (gRest l p suf && decide ((l.length : Int) ≤ 8)) := by
 intro suf
 induction suf with
 | nil =>
  intro pre p h
  refine ev_succ ?_
  simp only [spec_IsRig.l0, if_neg (ixn h), gRest, Bool.true_and]
  exact Ev.now _
 | cons a t ih =>
  intro pre p h
  obtain ⟨h1, h2, h3, h4⟩ := ix h (by omega)
  obtain ⟨h5, h6, h7, h8⟩ := ix2 h (by omega)
  have hza := szD_mid hz h
  refine ev_succ ?_
  simp only [spec_IsRig.l0, if_pos h1, if_pos (nn _), Int.toNat_natCast, rd_T30, h2, h3, h6, h7, if_pos h5, if_pos h8]
  rw [gRest]
  refine Ev.bind (spec_IsDevice_ev _ _ _ _ _ _ _ _ hza.1 hza.2) ?_
  change Ev (fun k => if dOk a = true then _ else _) _
  refine ev_ite (fun c1 => ?_) (fun c1 => ?_)
  ·rw [c1, Bool.true_and]
   refine ev_ite (fun c3 => ?_) (fun c3 => ?_)
   ·rw [c3, Bool.true_and]
    refine Ev.bind (spec_l6Hangs_ev l a hl c1) ?_
    refine ev_ite (fun c4 => ?_) (fun c4 => ?_)
    ·rw [c4, Bool.true_and]; exact ih (pre ++ [p]) a h4
    ·rw [Bool.eq_false_iff.2 c4, Bool.false_and, Bool.false_and]; exact Ev.now _
   ·rw [Bool.eq_false_iff.2 c3, Bool.false_and, Bool.false_and]; exact Ev.now _
  ·rw [Bool.eq_false_iff.2 c1, Bool.false_and, Bool.false_and]; exact Ev.now _
theorem spec_IsRig_ev (l : List De) (hl : l.length < 1099511627776) (hz : szD l) : Ev (fun k => spec_IsRig.f k l) (pRig l) := by
 unfold spec_IsRig.f pRig
 refine ev_succ ?_
 cases l with
 | nil =>
  simp only [spec_IsRig.l0]
  exact Ev.now _
 | cons a t =>
  obtain ⟨h1, h2, h3, h4⟩ := ix (l := a :: t) (pre := []) rfl (by omega)
  have hza := szD_mid (pre := []) hz rfl
  simp only [List.length_nil, Int.natCast_zero] at h1 h2 h3
  simp only [spec_IsRig.l0, if_pos h1, if_pos (show (0 : Int) ≤ 0 by omega), Int.toNat_zero, rd_T30, h2, h3, if_neg (show ¬ ((0 : Int) > 0) by omega)]
  rw [gAll]
  refine Ev.bind (spec_IsDevice_ev _ _ _ _ _ _ _ _ hza.1 hza.2) ?_
  change Ev (fun k => if dOk a = true then _ else _) _
  refine ev_ite (fun c1 => ?_) (fun c1 => ?_)
  ·rw [c1, Bool.true_and]
   refine Ev.bind (spec_l6Hangs_ev (a :: t) a hl c1) ?_
   refine ev_ite (fun c4 => ?_) (fun c4 => ?_)
   ·rw [c4, Bool.true_and]; exact spec_IsRig_l0 (a :: t) hl hz t [] a rfl
   ·rw [Bool.eq_false_iff.2 c4, Bool.false_and, Bool.false_and]; exact Ev.now _
  ·rw [Bool.eq_false_iff.2 c1, Bool.false_and, Bool.false_and]; exact Ev.now _
theorem impl_IsRig_l0 (l : List De) (hl : l.length < 1099511627776) (hz : szD l) : ∀ (suf pre : List De) (p : De), l = (pre ++ [p]) ++ suf →
  Ev (fun k => impl_IsRig.l0 k l l (l.length : Int) ((pre ++ [p]).length : Int)) (gRest l p suf) := by
 intro suf
 induction suf with
 | nil =>
  intro pre p h
  refine ev_succ ?_
  simp only [impl_IsRig.l0, if_neg (ixn h), gRest]
  exact Ev.now _
 | cons a t ih =>
  intro pre p h
  obtain ⟨h1, h2, h3, h4⟩ := ix h (by omega)
  obtain ⟨h5, h6, h7, h8⟩ := ix2 h (by omega)
  have hza := szD_mid hz h
  refine ev_succ ?_
  simp only [impl_IsRig.l0, if_pos h1, if_pos (nn _), Int.toNat_natCast, rd_T30, h2, h3, h6, h7, if_pos h5, if_pos h8]
  rw [gRest]
  refine Ev.bind (impl_IsDevice_ev _ _ _ _ _ _ _ _ hza.1 hza.2) ?_
  change Ev (fun k => if dOk a = true then _ else _) _
  refine ev_ite (fun c1 => ?_) (fun c1 => ?_)
  ·rw [c1, Bool.true_and]
   refine ev_ite (fun c3 => ?_) (fun c3 => ?_)
   ·rw [c3, Bool.true_and]
    refine Ev.bind (impl_isHung_ev l a hl c1) ?_
    refine ev_ite (fun c4 => ?_) (fun c4 => ?_)
    ·rw [c4, Bool.true_and]; exact ih (pre ++ [p]) a h4
    ·rw [Bool.eq_false_iff.2 c4, Bool.false_and]; exact Ev.now _
   ·rw [Bool.eq_false_iff.2 c3, Bool.false_and]; exact Ev.now _
  ·rw [Bool.eq_false_iff.2 c1, Bool.false_and]; exact Ev.now _
theorem impl_IsRig_ev (l : List De) (hl : l.length < 1099511627776) (hz : szD l) : Ev (fun k => impl_IsRig.f k l) (pRig l) := by
 unfold impl_IsRig.f pRig
 refine ev_ite (fun c => ?_) (fun c => ?_)
 ·rw [decide_eq_false (by omega), Bool.and_false]; exact Ev.now _
 rw [decide_eq_true (by omega), Bool.and_true]
 refine ev_succ ?_
 cases l with
 | nil =>
  simp only [impl_IsRig.l0]
  exact Ev.now _
 | cons a t =>
  obtain ⟨h1, h2, h3, h4⟩ := ix (l := a :: t) (pre := []) rfl (by omega)
  have hza := szD_mid (pre := []) hz rfl
  simp only [List.length_nil, Int.natCast_zero] at h1 h2 h3
  simp only [impl_IsRig.l0, if_pos h1, if_pos (show (0 : Int) ≤ 0 by omega), Int.toNat_zero, rd_T30, h2, h3, if_neg (show ¬ ((0 : Int) > 0) by omega)]
  rw [gAll]
  refine Ev.bind (impl_IsDevice_ev _ _ _ _ _ _ _ _ hza.1 hza.2) ?_
  change Ev (fun k => if dOk a = true then _ else _) _
  refine ev_ite (fun c1 => ?_) (fun c1 => ?_)
  ·rw [c1, Bool.true_and]
   refine Ev.bind (impl_isHung_ev (a :: t) a hl c1) ?_
   refine ev_ite (fun c4 => ?_) (fun c4 => ?_)
   ·rw [c4, Bool.true_and]; exact impl_IsRig_l0 (a :: t) hl hz t [] a rfl
   ·rw [Bool.eq_false_iff.2 c4, Bool.false_and]; exact Ev.now _
  ·rw [Bool.eq_false_iff.2 c1, Bool.false_and]; exact Ev.now _
theorem szD_map {l : List LDe} (hz : ∀ x ∈ l, x.f0.size ≤ maxLen ∧ x.f2.size ≤ maxLen) : szD (l.map cvD) := by
 intro c hc
 obtain ⟨x, hx, rfl⟩ := List.mem_map.1 hc
 exact hz x hx
theorem laws_markDeviceS_l0 : ∀ (suf pre : List De) (c : Int), 0 ≤ c → pre.length + suf.length < 1099511627776 → c + 8 * suf.length < 4611686018427387000 →
  ∃ r, Ev (fun k => laws_markDeviceS.l0 k (pre ++ suf) c (pre.length : Int)) (c + 8 * suf.length, r) := by
 intro suf
 induction suf with
 | nil =>
  intro pre c _ _ _
  refine ⟨pre, ev_succ ?_⟩
  simp only [laws_markDeviceS.l0, if_neg (ixn (pre := pre) rfl)]
  simpa using Ev.now (c, pre)
 | cons a t ih =>
  intro pre c h0 hl hm
  simp only [List.length_cons] at hl hm
  obtain ⟨h1, h2, h3, h4⟩ := ix (l := pre ++ a :: t) rfl (by simp; omega)
  have hg : ∀ (b d : De), (pre ++ b :: t).getD pre.length d = b := fun b d => by simp [List.getD]
  obtain ⟨r, e⟩ := ih (pre ++ [⟨mtT c, c + 1, mtT (c + 2), ⟨c + 3, c + 4⟩, c + 5, c + 6, c + 7⟩]) (c + 8) (by omega) (by simp; omega) (by omega)
  refine ⟨r, ev_succ ?_⟩
  simp only [laws_markDeviceS.l0, if_pos h1]
  refine Ev.bind (mtT_ev c (by omega)) ?_
  simp only [if_pos (nn _), Int.toNat_natCast, set_app, Option.bind_some, rd_T30, hg]
  rw [show wrap64 (c + 1) = c + 1 by unfold wrap64; omega, show wrap64 (c + 1 + 1) = c + 2 by unfold wrap64; omega, show wrap64 (c + 2 + 1) = c + 3 by unfold wrap64; omega, show wrap64 (c + 3 + 1) = c + 4 by unfold wrap64; omega, show wrap64 (c + 4 + 1) = c + 5 by unfold wrap64; omega, show wrap64 (c + 5 + 1) = c + 6 by unfold wrap64; omega, show wrap64 (c + 6 + 1) = c + 7 by unfold wrap64; omega, show wrap64 (c + 7 + 1) = c + 8 by unfold wrap64; omega]
  refine Ev.bind (mtT_ev (c + 2) (by omega)) ?_
  rw [show wrap64 ((pre.length : Int) + 1) = ((pre ++ [(⟨mtT c, c + 1, mtT (c + 2), ⟨c + 3, c + 4⟩, c + 5, c + 6, c + 7⟩ : De)]).length : Int) by simp; unfold wrap64; omega, app1]
  simp only [List.length_cons]
  rwa [show c + 8 * ((t.length + 1 : Nat) : Int) = c + 8 + 8 * t.length by omega]
theorem laws_markDeviceS_ev (l : List De) (c : Int) (hl : l.length < 1099511627776) (h0 : 0 ≤ c) (h1 : c < 4611686018427) : ∃ r, Ev (fun k => laws_markDeviceS.f k l c) (c + 8 * l.length, r) :=
 laws_markDeviceS_l0 l [] c h0 (by simp; omega) (by omega)
noncomputable def dUpto : Nat → Int → List De
 | 0, _ => []
 | n + 1, c => ⟨mtT c, c + 1, mtT (c + 2), ⟨c + 3, c + 4⟩, c + 5, c + 6, c + 7⟩ :: dUpto n (c + 8)
theorem dUpto_length : ∀ n c, (dUpto n c).length = n
 | 0, _ => rfl
 | n + 1, c => by simp [dUpto, dUpto_length n]
theorem laws_markDeviceS_l1 : ∀ (suf pre : List De) (c : Int), 0 ≤ c → pre.length + suf.length < 1099511627776 → c + 8 * suf.length < 4611686018427387000 →
  Ev (fun k => laws_markDeviceS.l0 k (pre ++ suf) c (pre.length : Int)) (c + 8 * suf.length, pre ++ dUpto suf.length c) := by
 intro suf
 induction suf with
 | nil =>
  intro pre c _ _ _
  refine ev_succ ?_
  simp only [laws_markDeviceS.l0, if_neg (ixn (pre := pre) rfl)]
  simpa [dUpto] using Ev.now (c, pre)
 | cons a t ih =>
  intro pre c h0 hl hm
  simp only [List.length_cons] at hl hm
  obtain ⟨h1, h2, h3, h4⟩ := ix (l := pre ++ a :: t) rfl (by simp; omega)
  have hg : ∀ (b d : De), (pre ++ b :: t).getD pre.length d = b := fun b d => by simp [List.getD]
  have e := ih (pre ++ [⟨mtT c, c + 1, mtT (c + 2), ⟨c + 3, c + 4⟩, c + 5, c + 6, c + 7⟩]) (c + 8) (by omega) (by simp; omega) (by omega)
  refine ev_succ ?_
  simp only [laws_markDeviceS.l0, if_pos h1]
  refine Ev.bind (mtT_ev c (by omega)) ?_
  simp only [if_pos (nn _), Int.toNat_natCast, set_app, Option.bind_some, rd_T30, hg]
  rw [show wrap64 (c + 1) = c + 1 by unfold wrap64; omega, show wrap64 (c + 1 + 1) = c + 2 by unfold wrap64; omega, show wrap64 (c + 2 + 1) = c + 3 by unfold wrap64; omega, show wrap64 (c + 3 + 1) = c + 4 by unfold wrap64; omega, show wrap64 (c + 4 + 1) = c + 5 by unfold wrap64; omega, show wrap64 (c + 5 + 1) = c + 6 by unfold wrap64; omega, show wrap64 (c + 6 + 1) = c + 7 by unfold wrap64; omega, show wrap64 (c + 7 + 1) = c + 8 by unfold wrap64; omega]
  refine Ev.bind (mtT_ev (c + 2) (by omega)) ?_
  rw [show wrap64 ((pre.length : Int) + 1) = ((pre ++ [(⟨mtT c, c + 1, mtT (c + 2), ⟨c + 3, c + 4⟩, c + 5, c + 6, c + 7⟩ : De)]).length : Int) by simp; unfold wrap64; omega, app1]
  simp only [List.length_cons, dUpto]
  rw [show c + 8 * ((t.length + 1 : Nat) : Int) = c + 8 + 8 * t.length by omega]
  simpa using e
theorem laws_markDeviceS_ev' (l : List De) (c : Int) (hl : l.length < 1099511627776) (h0 : 0 ≤ c) (h1 : c < 4611686018427) : Ev (fun k => laws_markDeviceS.f k l c) (c + 8 * l.length, dUpto l.length c) := by
 have := laws_markDeviceS_l1 l [] c h0 (by simp; omega) (by omega)
 simpa [laws_markDeviceS.f] using this
theorem laws_heldDeviceS_l0 : ∀ (n : Nat) (pre : List De) (c : Int), 0 ≤ c → pre.length + n < 1099511627776 → c + 8 * n < 4611686018427387000 →
  Ev (fun k => laws_heldDeviceS.l0 k (pre ++ dUpto n c) c (pre.length : Int)) (c + 8 * n) := by
 intro n
 induction n with
 | zero =>
  intro pre c _ _ _
  refine ev_succ ?_
  simp only [laws_heldDeviceS.l0, dUpto, List.append_nil, if_neg (show ¬ ((pre.length : Int) < (pre.length : Int)) by omega)]
  simpa using Ev.now c
 | succ n ih =>
  intro pre c h0 hl hm
  obtain ⟨h1, h2, h3, h4⟩ := ix (l := pre ++ ⟨mtT c, c + 1, mtT (c + 2), ⟨c + 3, c + 4⟩, c + 5, c + 6, c + 7⟩ :: dUpto n (c + 8)) rfl (by simp [dUpto_length]; omega)
  refine ev_succ ?_
  simp only [laws_heldDeviceS.l0, dUpto, if_pos h1, if_pos (nn _), Int.toNat_natCast, rd_T30, h2, h3]
  rw [show wrap64 (c + 1) = c + 1 by unfold wrap64; omega, show wrap64 (c + 1 + 1) = c + 2 by unfold wrap64; omega, show wrap64 (c + 2 + 1) = c + 3 by unfold wrap64; omega, show wrap64 (c + 3 + 1) = c + 4 by unfold wrap64; omega, show wrap64 (c + 4 + 1) = c + 5 by unfold wrap64; omega, show wrap64 (c + 5 + 1) = c + 6 by unfold wrap64; omega, show wrap64 (c + 6 + 1) = c + 7 by unfold wrap64; omega, show wrap64 (c + 7 + 1) = c + 8 by unfold wrap64; omega, app1]
  refine Ev.bind (mtT_ev c (by omega)) ?_
  simp only [if_true]
  refine Ev.bind (mtT_ev (c + 2) (by omega)) ?_
  simp only [if_true]
  have := ih (pre ++ [⟨mtT c, c + 1, mtT (c + 2), ⟨c + 3, c + 4⟩, c + 5, c + 6, c + 7⟩]) (c + 8) (by omega) (by simp; omega) (by omega)
  rwa [show c + 8 * ((n + 1 : Nat) : Int) = c + 8 + 8 * n by omega]
theorem laws_heldDeviceS_ev (n : Nat) (hl : n < 1099511627776) : Ev (fun k => laws_heldDeviceS.f k (dUpto n 1) 1) (1 + 8 * n) := by
 have := laws_heldDeviceS_l0 n [] 1 (by omega) (by simp; omega) (by omega)
 simpa [laws_heldDeviceS.f] using this
theorem impl_CloneD_eq (l : List De) (hl : l.length < 1099511627776) : impl_Device.f l = some l := by
 simp only [impl_Device.f, Option.bind_some, List.length_nil, if_pos (show 0 + l.length < 1759218604441 by omega), List.nil_append]
theorem gRest_all (l : List De) : ∀ (t : List De) (p : De), gRest l p t = true → ∀ d ∈ t, dOk d = true
 | [], _, _, d, hd => by cases hd
 | q :: t, p, h, d, hd => by
  simp only [gRest, Bool.and_eq_true] at h
  cases hd with
  | head => exact h.1
  | tail _ hd => exact gRest_all l t q h.2.2.2 d hd
theorem pRig_dOk {l : List De} (h : pRig l = true) : ∀ d ∈ l, dOk d = true := by
 simp only [pRig, Bool.and_eq_true] at h
 have h1 := h.1
 generalize l = m at h1 ⊢
 intro d hd
 revert h1
 generalize hq : m = q
 intro h1
 subst hq
 cases m with
 | nil => cases hd
 | cons q t =>
  simp only [gAll, Bool.and_eq_true] at h1
  cases hd with
  | head => exact h1.1
  | tail _ hd => exact gRest_all _ t q h1.2.2 d hd
/-- A device turned by n quarters. -/
def dTurn (n : Int) (d : De) : De := ⟨d.f0, d.f1, d.f2, ⟨(pTurn4 n (d.f3.f0, d.f3.f1)).1, (pTurn4 n (d.f3.f0, d.f3.f1)).2⟩, if d.f1 = 2 then (d.f4 + n % 4) % 4 else d.f4, d.f5, d.f6⟩
def inB (B : Int) (p : Int × Int) : Prop := (-B ≤ p.1 ∧ p.1 ≤ B) ∧ (-B ≤ p.2 ∧ p.2 ≤ B)
theorem rotN_in (B : Int) (hB : B ≤ 4096) : ∀ (m : Nat) (p : Int × Int), inB B p → inB B (rotN m p)
 | 0, _, h => h
 | m + 1, p, h => rotN_in B hB m _ (by
  unfold inB at *
  have : wrap64 (-p.2) = -p.2 := by unfold wrap64; omega
  simp only [this]; omega)
theorem rotN_zero : ∀ (m : Nat), rotN m (0, 0) = (0, 0)
 | 0 => rfl
 | m + 1 => by
  have : wrap64 (-(0 : Int)) = 0 := by unfold wrap64; omega
  rw [rotN]; simp only [this]; exact rotN_zero m
theorem pHead_iff (h : Int) : pHead h = true ↔ 0 ≤ h ∧ h ≤ 3 := by simp [pHead]
theorem i16_iff (a x y : Int) : i16 a x y = true ↔ x ≤ a ∧ a ≤ y := by simp [i16]
theorem dOk_place {d : De} (h : dOk d = true) : inB 4096 (d.f3.f0, d.f3.f1) ∧ (d.f1 = 1 → d.f3.f0 = 0 ∧ d.f3.f1 = 0) ∧ (d.f1 = 2 → (0 ≤ d.f4 ∧ d.f4 ≤ 3) ∧ inB 1024 (d.f3.f0, d.f3.f1)) := by
 unfold dOk pDevice at h
 unfold inB
 by_cases h1 : d.f1 = 1
 ·rw [if_pos h1] at h
  simp only [Bool.and_eq_true, beq_iff_eq] at h
  obtain ⟨_, _, _, ⟨h3, h4⟩, _⟩ := h
  refine ⟨by simp only [h3, h4]; omega, fun _ => ⟨h3, h4⟩, fun h => by omega⟩
 ·rw [if_neg h1] at h
  by_cases h2 : d.f1 = 2
  ·rw [if_pos h2] at h
   simp only [pJet, Bool.and_eq_true, pHead_iff, i16_iff] at h
   obtain ⟨_, _, ⟨h3, h4, h5, _⟩, _⟩ := h
   exact ⟨⟨⟨by omega, by omega⟩, ⟨by omega, by omega⟩⟩, fun h => absurd h h1, fun _ => ⟨h5, h3, h4⟩⟩
  ·rw [if_neg h2] at h
   by_cases h3 : d.f1 = 3
   ·rw [if_pos h3] at h
    simp only [pPlace, Bool.and_eq_true, decide_eq_true_eq] at h
    refine ⟨?_, fun h => absurd h h1, fun h => absurd h h2⟩
    have := h.2.2.1
    exact this
   ·rw [if_neg h3] at h; simp at h
theorem dTurn_ok {d : De} (h : dOk d = true) (n : Int) : dOk (dTurn n d) = true := by
 obtain ⟨hb, h1, h2⟩ := dOk_place h
 have hr := rotN_in 4096 (by omega) (n % 4).toNat _ hb
 have hm1 := Int.emod_nonneg (d.f4 + n % 4) (show (4 : Int) ≠ 0 by omega)
 have hm2 := Int.emod_lt_of_pos (d.f4 + n % 4) (show (0 : Int) < 4 by omega)
 unfold dOk pDevice at h
 change pDevice d.f0 d.f1 d.f2 (pTurn4 n (d.f3.f0, d.f3.f1)).1 (pTurn4 n (d.f3.f0, d.f3.f1)).2 (if d.f1 = 2 then (d.f4 + n % 4) % 4 else d.f4) d.f5 d.f6 = true
 unfold pDevice
 by_cases k1 : d.f1 = 1
 ·obtain ⟨e1, e2⟩ := h1 k1
  have : pTurn4 n (d.f3.f0, d.f3.f1) = (0, 0) := by rw [e1, e2]; exact rotN_zero _
  rw [this]
  simp only [e1, e2] at h
  simpa only [k1, if_neg (show ¬ (1 : Int) = 2 by omega)] using h
 ·by_cases k2 : d.f1 = 2
  ·rw [if_neg k1, if_pos k2] at h
   rw [if_neg k1, if_pos k2, if_pos k2]
   have hr := rotN_in 1024 (by omega) (n % 4).toNat _ (h2 k2).2
   simp only [pJet, Bool.and_eq_true, pHead_iff, i16_iff] at h ⊢
   obtain ⟨a1, a2, ⟨a3, a4, a5, a6⟩, a7⟩ := h
   exact ⟨a1, a2, ⟨hr.1, hr.2, ⟨hm1, by omega⟩, a6⟩, a7⟩
  ·rw [if_neg k1, if_neg k2] at h
   rw [if_neg k1, if_neg k2]
   by_cases k3 : d.f1 = 3
   ·rw [if_pos k3] at h
    rw [if_pos k3, if_neg k2]
    simp only [pPlace, Bool.and_eq_true, decide_eq_true_eq] at h ⊢
    have hr1 := hr.1
    have hr2 := hr.2
    unfold pTurn4
    exact ⟨h.1, h.2.1, ⟨⟨hr1, hr2⟩, h.2.2.2⟩⟩
   ·rw [if_neg k3] at h; simp at h
/-- TurnRig -/
def pTurnRig (l : List De) (n : Int) : List De := if pRig l = true then l.map (dTurn n) else []
theorem pTurnRig_len (l : List De) (n : Int) (hl : l.length < 1099511627776) : (pTurnRig l n).length < 1099511627776 := by
 unfold pTurnRig; split
 ·simpa using hl
 ·simp
theorem spec_TurnHeading_eq (h n : Int) (h0 : 0 ≤ h) (h3 : h ≤ 3) : spec_TurnHeading.f h n = some ((h + n % 4) % 4) := by
 have h1 := Int.emod_nonneg n (show (4 : Int) ≠ 0 by omega)
 have h2 := Int.emod_lt_of_pos n (show (0 : Int) < 4 by omega)
 simp only [spec_TurnHeading.f, spec_IsHeading_eq, Option.bind_some, (pHead_iff h).2 ⟨h0, h3⟩, if_true, spec_l2Mod_eq]
 rw [show wrap64 (h + n % 4) = h + n % 4 by unfold wrap64; omega]
theorem spec_l6Moved_l0 (l : List De) (n : Int) (hl : l.length < 1099511627776) (hz : szD l) (hk : ∀ d ∈ l, dOk d = true) : ∀ (suf pre : List De), l = pre ++ suf →
  Ev (fun k => spec_l6Moved.l0 k n (pre.map (dTurn n)) l (l.length : Int) (pre.length : Int) 0 0) (l.map (dTurn n), true) := by
 intro suf
 induction suf with
 | nil =>
  intro pre h
  refine ev_succ ?_
  simp only [spec_l6Moved.l0, if_neg (ixn h)]
  simpa [h] using Ev.now (l.map (dTurn n), true)
 | cons a s ih =>
  intro pre h
  obtain ⟨h1, h2, h3, h4⟩ := ix h (by omega)
  have ha : a ∈ l := by rw [h]; simp
  have hd := hk a ha
  obtain ⟨hb, p1, p2⟩ := dOk_place hd
  have ht := dTurn_ok hd n
  have hlen : (pre.map (dTurn n)).length < 1759218604441 := by
   have : l.length = pre.length + (s.length + 1) := by rw [h]; simp
   rw [List.length_map]; omega
  have hn : a.f0.size ≤ 9223372036854775807 ∧ a.f2.size ≤ 9223372036854775807 := hz a ha
  have next := ih (pre ++ [a]) h4
  have hmap : (pre ++ [a]).map (dTurn n) = pre.map (dTurn n) ++ [dTurn n a] := by simp
  rw [hmap] at next
  have hr := rotN_in 4096 (by omega) (n % 4).toNat _ hb
  have hJ : ∀ x y : Int, (x, y) = pTurn4 n (a.f3.f0, a.f3.f1) → Ev (fun k => spec_l6Moved.j1 k n (pre.map (dTurn n)) l (l.length : Int) (pre.length : Int) 0 0 a.f0 a.f1 a.f2 x y a.f4 a.f5 a.f6) (l.map (dTurn n), true) := by
   intro x y hxy
   have hx : x = (pTurn4 n (a.f3.f0, a.f3.f1)).1 := by rw [← hxy]
   have hy : y = (pTurn4 n (a.f3.f0, a.f3.f1)).2 := by rw [← hxy]
   refine ev_succ ?_
   simp only [spec_l6Moved.j1]
   by_cases k2 : a.f1 = 2
   ·have hh := p2 k2
    simp only [if_pos k2, spec_TurnHeading_eq a.f4 n hh.1.1 hh.1.2, Option.bind_some]
    refine Ev.bind (spec_IsDevice_ev _ _ _ _ _ _ _ _ hn.1 hn.2) ?_
    have hok : pDevice a.f0 a.f1 a.f2 x y ((a.f4 + n % 4) % 4) a.f5 a.f6 = true := by
     have := ht; simp only [dOk, dTurn, if_pos k2] at this; rw [hx, hy]; exact this
    simp only [hok, if_true, if_pos hlen]
    rw [h3]
    have e : dTurn n a = ⟨a.f0, a.f1, a.f2, ⟨x, y⟩, (a.f4 + n % 4) % 4, a.f5, a.f6⟩ := by simp only [dTurn, if_pos k2, hx, hy]
    rw [e] at next
    exact next
   ·simp only [if_neg k2]
    refine Ev.bind (spec_IsDevice_ev _ _ _ _ _ _ _ _ hn.1 hn.2) ?_
    have hok : pDevice a.f0 a.f1 a.f2 x y a.f4 a.f5 a.f6 = true := by
     have := ht; simp only [dOk, dTurn, if_neg k2] at this; rw [hx, hy]; exact this
    simp only [hok, if_true, if_pos hlen]
    rw [h3]
    have e : dTurn n a = ⟨a.f0, a.f1, a.f2, ⟨x, y⟩, a.f4, a.f5, a.f6⟩ := by simp only [dTurn, if_neg k2, hx, hy]
    rw [e] at next
    exact next
  refine ev_succ ?_
  simp only [spec_l6Moved.l0, if_pos h1, if_pos (nn _), Int.toNat_natCast, rd_T30, h2]
  refine ev_ite (fun k1 => ?_) (fun k1 => ?_)
  ·refine hJ _ _ ?_
   rw [(p1 k1).1, (p1 k1).2]
   exact (rotN_zero _).symm
  ·refine Ev.bind (spec_l2Turn_ev _ _ _) ?_
   have w1 : wrap64 ((pTurn4 n (a.f3.f0, a.f3.f1)).1 + 0) = (pTurn4 n (a.f3.f0, a.f3.f1)).1 := by
    have := hr.1; unfold pTurn4; unfold wrap64; omega
   have w2 : wrap64 ((pTurn4 n (a.f3.f0, a.f3.f1)).2 + 0) = (pTurn4 n (a.f3.f0, a.f3.f1)).2 := by
    have := hr.2; unfold pTurn4; unfold wrap64; omega
   simp only [spec_l2Add.f, Option.bind_some, w1, w2]
   exact hJ _ _ rfl
/-- A device moved by (x, y). -/
def dShift (x y : Int) (d : De) : De := if d.f1 = 1 then d else ⟨d.f0, d.f1, d.f2, ⟨d.f3.f0 + x, d.f3.f1 + y⟩, d.f4, d.f5, d.f6⟩
/-- ShiftRig -/
def pShift (l : List De) (x y : Int) : List De × Bool :=
 if pRig l = true then (if pPlace x y = true then (if l.all (fun d => dOk (dShift x y d)) = true then (l.map (dShift x y), true) else ([], false)) else ([], false)) else ([], false)
theorem pPlace_iff (x y : Int) : pPlace x y = true ↔ (-4096 ≤ x ∧ x ≤ 4096) ∧ (-4096 ≤ y ∧ y ≤ 4096) := by
 simp only [pPlace, Bool.and_eq_true, decide_eq_true_eq]
theorem pShift_len (l : List De) (x y : Int) (hl : l.length < 1099511627776) : (pShift l x y).1.length < 1099511627776 := by
 unfold pShift
 split
 ·split
  ·split
   ·simpa using hl
   ·simp
  ·simp
 ·simp
theorem turn0 (p : Int × Int) : pTurn4 0 p = p := rfl
theorem spec_l6Moved_s0 (l : List De) (x y : Int) (hl : l.length < 1099511627776) (hz : szD l) (hk : ∀ d ∈ l, dOk d = true) (hxy : pPlace x y = true) : ∀ (suf pre : List De), l = pre ++ suf →
  Ev (fun k => spec_l6Moved.l0 k 0 (pre.map (dShift x y)) l (l.length : Int) (pre.length : Int) x y) (if suf.all (fun d => dOk (dShift x y d)) = true then (l.map (dShift x y), true) else ([], false)) := by
 intro suf
 induction suf with
 | nil =>
  intro pre h
  refine ev_succ ?_
  simp only [spec_l6Moved.l0, if_neg (ixn h), List.all_nil, if_true]
  simpa [h] using Ev.now (l.map (dShift x y), true)
 | cons a s ih =>
  intro pre h
  obtain ⟨h1, h2, h3, h4⟩ := ix h (by omega)
  have ha : a ∈ l := by rw [h]; simp
  have hd := hk a ha
  obtain ⟨hb, p1, p2⟩ := dOk_place hd
  obtain ⟨⟨b1, b2⟩, b3, b4⟩ := hb
  obtain ⟨⟨c1, c2⟩, c3, c4⟩ := (pPlace_iff x y).1 hxy
  simp only at b1 b2 b3 b4
  have hlen : (pre.map (dShift x y)).length < 1759218604441 := by
   have : l.length = pre.length + (s.length + 1) := by rw [h]; simp
   rw [List.length_map]; omega
  have hn : a.f0.size ≤ 9223372036854775807 ∧ a.f2.size ≤ 9223372036854775807 := hz a ha
  have next := ih (pre ++ [a]) h4
  have hmap : (pre ++ [a]).map (dShift x y) = pre.map (dShift x y) ++ [dShift x y a] := by simp
  rw [hmap] at next
  have hJ : ∀ u v : Int, dShift x y a = ⟨a.f0, a.f1, a.f2, ⟨u, v⟩, a.f4, a.f5, a.f6⟩ → Ev (fun k => spec_l6Moved.j1 k 0 (pre.map (dShift x y)) l (l.length : Int) (pre.length : Int) x y a.f0 a.f1 a.f2 u v a.f4 a.f5 a.f6) (if (a :: s).all (fun d => dOk (dShift x y d)) = true then (l.map (dShift x y), true) else ([], false)) := by
   intro u v e
   have e2 : dOk (dShift x y a) = pDevice a.f0 a.f1 a.f2 u v a.f4 a.f5 a.f6 := by rw [e]; rfl
   rw [List.all_cons, e2]
   have fin : ∀ b : Bool, pDevice a.f0 a.f1 a.f2 u v a.f4 a.f5 a.f6 = b → Ev (fun k => if b = true then (if (pre.map (dShift x y)).length < 1759218604441 then (spec_l6Moved.l0 k 0 (pre.map (dShift x y) ++ [(⟨a.f0, a.f1, a.f2, ⟨u, v⟩, a.f4, a.f5, a.f6⟩ : De)]) l (l.length : Int) (wrap64 ((pre.length : Int) + 1)) x y) else none) else some (([] : List De), false)) (if (b && s.all (fun d => dOk (dShift x y d))) = true then (l.map (dShift x y), true) else ([], false)) := by
    intro b hb
    cases b
    ·simp only [Bool.false_eq_true, if_false, Bool.false_and]; exact Ev.now _
    ·simp only [if_true, if_pos hlen, Bool.true_and]
     rw [h3, ← e]
     exact next
   refine ev_succ ?_
   simp only [spec_l6Moved.j1]
   by_cases k2 : a.f1 = 2
   ·have hh := p2 k2
    have h0 : (a.f4 + 0 % 4) % 4 = a.f4 := by have := hh.1; omega
    simp only [if_pos k2, spec_TurnHeading_eq a.f4 0 hh.1.1 hh.1.2, Option.bind_some, h0]
    refine Ev.bind (spec_IsDevice_ev _ _ _ _ _ _ _ _ hn.1 hn.2) ?_
    exact fin _ rfl
   ·simp only [if_neg k2]
    refine Ev.bind (spec_IsDevice_ev _ _ _ _ _ _ _ _ hn.1 hn.2) ?_
    exact fin _ rfl
  refine ev_succ ?_
  simp only [spec_l6Moved.l0, if_pos h1, if_pos (nn _), Int.toNat_natCast, rd_T30, h2]
  refine ev_ite (fun k1 => ?_) (fun k1 => ?_)
  ·refine hJ _ _ ?_
   unfold dShift; rw [if_pos k1]
  ·refine Ev.bind (spec_l2Turn_ev _ _ _) ?_
   simp only [turn0]
   have w1 : wrap64 (a.f3.f0 + x) = a.f3.f0 + x := by unfold wrap64; omega
   have w2 : wrap64 (a.f3.f1 + y) = a.f3.f1 + y := by unfold wrap64; omega
   simp only [spec_l2Add.f, Option.bind_some, w1, w2]
   refine hJ _ _ ?_
   unfold dShift; rw [if_neg k1]
theorem spec_ShiftRig_ev (l : List De) (x y : Int) (hl : l.length < 1099511627776) (hz : szD l) : Ev (fun k => spec_ShiftRig.f k l x y) (pShift l x y) := by
 simp only [spec_ShiftRig.f, spec_IsPlace_eq, Option.bind_some, pShift]
 refine Ev.bind (spec_IsRig_ev l hl hz) ?_
 refine ev_ite (fun c => ?_) (fun c => ?_)
 ·rw [if_pos c]
  refine ev_ite (fun c2 => ?_) (fun c2 => ?_)
  ·rw [if_pos c2]
   refine Ev.bind (show Ev (fun k => spec_l6Moved.f k l 0 x y) _ from spec_l6Moved_s0 l x y hl hz (pRig_dOk c) c2 l [] rfl) ?_
   exact Ev.now _
  ·rw [if_neg c2]; exact Ev.now _
 ·rw [if_neg c]; exact Ev.now _
theorem impl_AddPlaces_eq (a b x y : Int) (h : pPlace a b = true) (h' : pPlace x y = true) : impl_AddPlaces.f a b x y = some (if pPlace (a + x) (b + y) = true then (a + x, b + y, true) else (0, 0, false)) := by
 obtain ⟨⟨b1, b2⟩, b3, b4⟩ := (pPlace_iff a b).1 h
 obtain ⟨⟨c1, c2⟩, c3, c4⟩ := (pPlace_iff x y).1 h'
 have w1 : wrap64 (a + x) = a + x := by unfold wrap64; omega
 have w2 : wrap64 (b + y) = b + y := by unfold wrap64; omega
 simp only [impl_AddPlaces.f, impl_checked.f, impl_IsPlace_eq, Option.bind_some, h, h', if_true, w1, w2]
 by_cases c : pPlace (a + x) (b + y) = true
 ·simp only [if_pos c, Option.bind_some]
 ·simp only [if_neg c, Option.bind_some]
theorem impl_ShiftRig_l0 (l : List De) (x y : Int) (hl : l.length < 1099511627776) (hz : szD l) (hk : ∀ d ∈ l, dOk d = true) (hxy : pPlace x y = true) : ∀ (suf pre : List De), l = pre ++ suf →
  Ev (fun k => impl_ShiftRig.l0 k (pre.map (dShift x y) ++ suf) (l.length : Int) (pre.length : Int) x y) (if suf.all (fun d => dOk (dShift x y d)) = true then (l.map (dShift x y), true) else ([], false)) := by
 intro suf
 induction suf with
 | nil =>
  intro pre h
  refine ev_succ ?_
  simp only [impl_ShiftRig.l0, if_neg (ixn h), List.all_nil, if_true, List.append_nil]
  simpa [h] using Ev.now (l.map (dShift x y), true)
 | cons a s ih =>
  intro pre h
  have hll : l.length = pre.length + (s.length + 1) := by rw [h]; simp
  obtain ⟨h1, _, h3, h4⟩ := ix h (by omega)
  have hpl : (pre.map (dShift x y)).length = pre.length := List.length_map ..
  have hX : ∀ b : De, ((pre.map (dShift x y) ++ b :: s).length : Int) = (l.length : Int) := fun b => by simp; omega
  have g2 : ∀ b d : De, (pre.map (dShift x y) ++ b :: s).getD pre.length d = b := fun b d => by
   obtain ⟨_, q, _, _⟩ := ix (l := pre.map (dShift x y) ++ b :: s) rfl (by have := hX b; omega)
   rw [hpl] at q; exact q d
  have hset : ∀ b : De, (pre.map (dShift x y) ++ a :: s).set pre.length b = pre.map (dShift x y) ++ b :: s := fun b => by
   have := set_app (pre.map (dShift x y)) s a b
   rwa [hpl] at this
  have ha : a ∈ l := by rw [h]; simp
  have hd := hk a ha
  obtain ⟨hb, p1, p2⟩ := dOk_place hd
  have hn : a.f0.size ≤ 9223372036854775807 ∧ a.f2.size ≤ 9223372036854775807 := hz a ha
  have next := ih (pre ++ [a]) h4
  have hmap : (pre ++ [a]).map (dShift x y) ++ s = pre.map (dShift x y) ++ dShift x y a :: s := by simp
  rw [hmap] at next
  refine ev_succ ?_
  simp only [impl_ShiftRig.l0, if_pos h1, if_pos (nn _), Int.toNat_natCast, rd_T30, g2, hX]
  rw [List.all_cons]
  refine ev_ite (fun k1 => ?_) (fun k1 => ?_)
  ·have e : dShift x y a = a := by unfold dShift; rw [if_pos k1]
   rw [e] at next ⊢
   rw [hd, Bool.true_and, h3]
   exact next
  ·have e : dShift x y a = ⟨a.f0, a.f1, a.f2, ⟨a.f3.f0 + x, a.f3.f1 + y⟩, a.f4, a.f5, a.f6⟩ := by unfold dShift; rw [if_neg k1]
   rw [impl_AddPlaces_eq _ _ _ _ ((pPlace_iff _ _).2 hb) hxy]
   simp only [Option.bind_some, hset, g2]
   by_cases c : pPlace (a.f3.f0 + x) (a.f3.f1 + y) = true
   ·simp only [if_pos c, if_true]
    refine Ev.bind (impl_IsDevice_ev _ _ _ _ _ _ _ _ hn.1 hn.2) ?_
    have e2 : pDevice a.f0 a.f1 a.f2 (a.f3.f0 + x) (a.f3.f1 + y) a.f4 a.f5 a.f6 = dOk (dShift x y a) := by rw [e]; rfl
    rw [e2]
    refine ev_ite (fun c2 => ?_) (fun c2 => ?_)
    ·rw [c2, Bool.true_and, h3]
     rw [e] at next
     exact next
    ·rw [Bool.eq_false_iff.2 c2, Bool.false_and]; exact Ev.now _
   ·have c2 : dOk (dShift x y a) = false := by
     cases hq : dOk (dShift x y a)
     ·rfl
     ·have q := (dOk_place hq).1
      rw [e] at q
      exact absurd ((pPlace_iff _ _).2 q) c
    simp only [if_neg c, Bool.false_eq_true, if_false, c2, Bool.false_and]
    exact Ev.now _
theorem impl_ShiftRig_ev (l : List De) (x y : Int) (hl : l.length < 1099511627776) (hz : szD l) : Ev (fun k => impl_ShiftRig.f k l x y) (pShift l x y) := by
 have j1 : Ev (fun k => impl_ShiftRig.j0 k l true x y) ([], false) := by
  refine ev_succ ?_
  simp only [impl_ShiftRig.j0, if_true]; exact Ev.now _
 simp only [impl_ShiftRig.f, impl_IsPlace_eq, Option.bind_some, pShift]
 refine Ev.bind (impl_IsRig_ev l hl hz) ?_
 refine ev_ite (fun c => ?_) (fun c => ?_)
 ·rw [if_pos c]
  by_cases c2 : pPlace x y = true
  ·rw [if_pos c2, c2]
   refine ev_succ ?_
   simp only [impl_ShiftRig.j0, Bool.not_true, Bool.false_eq_true, if_false, impl_CloneD_eq l hl, Option.bind_some]
   exact impl_ShiftRig_l0 l x y hl hz (pRig_dOk c) c2 l [] rfl
  ·rw [if_neg c2, Bool.eq_false_iff.2 c2]; exact j1
 ·rw [if_neg c]; exact j1
theorem FnExactShiftRig : laws_FnExactShiftRig.Pure := by
 intro l a b hm _ hx _ _
 refine Ev.rounds ?_
 have hz : ∀ x ∈ l, x.f0.size ≤ maxLen ∧ x.f2.size ≤ maxLen := fun x h => ⟨(hx x h).1, (hx x h).2.2.1⟩
 obtain ⟨r, hrm, hr, e⟩ := laws_szDeviceS_ev l 1048576 (by omega) (by omega) hm hz
 unfold laws_FnExactShiftRig.f
 refine Ev.bind e ?_
 refine ev_ite (fun _ => Ev.now _) (fun h => ?_)
 have hl := hr (by omega)
 simp only [laws_toPlace_eq, Option.bind_some]
 have hl' : (l.map cvD).length < 1099511627776 := by simpa using hl
 have hs := spec_ShiftRig_ev (l.map cvD) a b hl' (szD_map hz)
 have hi := impl_ShiftRig_ev (l.map cvD) a b hl' (szD_map hz)
 have hq := pShift_len (l.map cvD) a b hl'
 generalize pShift (l.map cvD) a b = q at hs hi hq
 refine Ev.bind (laws_toDeviceS_ev l hl) ?_
 refine Ev.bind hs ?_
 refine Ev.bind (laws_toDeviceS_ev l hl) ?_
 refine Ev.bind hi ?_
 refine Ev.bind (laws_eqDeviceS_rfl q.1 hq) ?_
 simp only [if_true, bne_self_eq_false]
 refine ev_succ ?_
 simp only [laws_FnExactShiftRig.j0, Bool.false_eq_true, if_false]
 refine Ev.bind (laws_toDeviceS_ev l hl) ?_
 refine Ev.bind (laws_eqDeviceS_rfl _ hl') ?_
 simp only [if_true]
 refine Ev.bind (laws_markDeviceS_ev' _ 1 hl' (by omega) (by omega)) ?_
 simp only [if_neg (show ¬ (1 + 8 * ((l.map cvD).length : Int) < 0) by omega)]
 refine Ev.bind (laws_eqDeviceS_rfl q.1 hq) ?_
 simp only [if_true, bne_self_eq_false]
 refine ev_succ ?_
 simp only [laws_FnExactShiftRig.j1, Bool.false_eq_true, if_false]
 refine Ev.bind (laws_markDeviceS_ev' q.1 1 hq (by omega) (by omega)) ?_
 refine Ev.bind (laws_heldDeviceS_ev q.1.length hq) ?_
 simp only [if_neg (show ¬ (1 + 8 * (q.1.length : Int) < 0) by omega), if_true, laws_toPlace_eq, Option.bind_some]
 refine Ev.bind (laws_toDeviceS_ev l hl) ?_
 refine Ev.bind hi ?_
 refine Ev.bind (laws_eqDeviceS_rfl q.1 hq) ?_
 simp only [if_true, bne_self_eq_false]
 refine ev_succ ?_
 simp only [laws_FnExactShiftRig.j2, Bool.false_eq_true, if_false]
 refine Ev.bind (laws_heldDeviceS_ev q.1.length hq) ?_
 simp only [if_neg (show ¬ (1 + 8 * (q.1.length : Int) < 0) by omega), if_true]
 exact Ev.now _

end Go.Proofs.Ytkedcokhcgklpaa.Pure
