/- The law FnExactAddDevice comes to true for every input: The program's AddDevice returns what the reference's returns, for all arguments. No condition beside the statement's own. -/
import Derived.Test.YtkedcokhcgklpaaStFnExactAddDevice
namespace Go.Proofs.Ytkedcokhcgklpaa.Pure
open Go Go.RowKit Go.Proofs.Ytkedcokhcgklpaa.MFnExactAddDevice Go.Proofs.YtkedcokhcgklpaaW.PrintWords Go.Proofs.YtkedcokhcgklpaaW.PrintLast Go.Proofs.YtkedcokhcgklpaaW.PrintMore
set_option linter.unusedVariables false
set_option linter.unusedSimpArgs false

theorem ev_succ {α : Type} {g : Nat → Option α} {r : α} (h : Ev (fun k => g (k + 1)) r) : Ev g r := Ev.step (fun _ => rfl) h
theorem ev_ite {α : Type} {c : Prop} [Decidable c] {f g : Nat → Option α} {r : α} (h : c → Ev f r) (h' : ¬ c → Ev g r) : Ev (fun k => if c then f k else g k) r := by
 by_cases hc : c
 ·simp only [if_pos hc]; exact h hc
 ·simp only [if_neg hc]; exact h' hc
theorem ix {α : Type} {l pre t : List α} {a : α} (h : l = pre ++ a :: t) (hl : l.length < 4611686018427387904) :
  (pre.length : Int) < (l.length : Int) ∧ (∀ d, l.getD pre.length d = a) ∧ wrap64 ((pre.length : Int) + 1) = ((pre ++ [a]).length : Int) ∧ l = (pre ++ [a]) ++ t := by
 subst h
 simp only [List.length_append, List.length_cons, List.length_nil] at *
 refine ⟨by omega, fun d => by simp [List.getD], by unfold wrap64; omega, by simp⟩
theorem ixn {α : Type} {l pre : List α} (h : l = pre ++ []) : ¬ (pre.length : Int) < (l.length : Int) := by
 subst h; simp
theorem nn (n : Nat) : (0 : Int) ≤ (n : Int) := Int.natCast_nonneg n
theorem w64 {n : Int} (h0 : -9223372036854775808 ≤ n) (h1 : n < 9223372036854775808) : wrap64 n = n := by unfold wrap64; omega
theorem mn_min (a b : Int) : mn a b = min a b := by unfold mn; omega
theorem mx_max (a b : Int) : mx a b = max a b := by unfold mx; omega
theorem set_app {α : Type} (pre t : List α) (a b : α) : (pre ++ a :: t).set pre.length b = pre ++ b :: t := by simp
theorem app1 {α : Type} (pre : List α) (a : α) (t : List α) : pre ++ a :: t = (pre ++ [a]) ++ t := by simp

/-- The numbers from c on, n of them. -/
def upto : Nat → Int → List Int
 | 0, _ => []
 | n + 1, c => c :: upto n (c + 1)
theorem upto_length : ∀ n c, (upto n c).length = n
 | 0, _ => rfl
 | n + 1, c => by simp [upto, upto_length n]

theorem spec_l1In_eq (a b c : Int) : spec_l1In.f a b c = some (decide (b ≤ a) && decide (a ≤ c)) := by
 unfold spec_l1In.f; split <;> simp <;> omega
theorem impl_isWithin_eq (a b c : Int) : impl_isWithin.f a b c = some (decide (b ≤ a) && decide (a ≤ c)) := by
 unfold impl_isWithin.f; split <;> simp <;> omega
def pSup (n : Int) : Bool := decide (0 ≤ n) && decide (n ≤ 512)
theorem spec_l5Supply_eq (n : Int) : spec_l5Supply.f n = some (pSup n) := by
 simp only [spec_l5Supply.f, spec_l1In_eq, Option.bind_some, pSup]
theorem impl_isSupply_eq (n : Int) : impl_isSupply.f n = some (pSup n) := by
 simp only [impl_isSupply.f, impl_isWithin_eq, Option.bind_some, pSup]
theorem ix2 {α : Type} {l pre t : List α} {p a : α} (h : l = (pre ++ [p]) ++ a :: t) (hl : l.length < 4611686018427387904) :
  (((pre ++ [p]).length : Int)) > 0 ∧ wrap64 (((pre ++ [p]).length : Int) - 1) = (pre.length : Int) ∧ (∀ d, l.getD pre.length d = p) ∧ (pre.length : Int) < (l.length : Int) := by
 subst h
 simp only [List.length_append, List.length_cons, List.length_nil] at *
 refine ⟨by omega, by unfold wrap64; omega, fun d => by simp [List.getD], by omega⟩
theorem ev_eq {α : Type} {f g : Nat → Option α} {r : α} (h : f = g) (k : Ev g r) : Ev f r := h ▸ k
theorem laws_toPlace_eq (a b : Int) : laws_toPlace.f a b = some (a, b) := rfl
theorem laws_eqPlace_rfl (a b : Int) : laws_eqPlace.f a b a b = some true := by simp [laws_eqPlace.f]
def pHead (h : Int) : Bool := decide (0 ≤ h) && decide (h ≤ 3)
theorem spec_IsHeading_eq (h : Int) : spec_IsHeading.f h = some (pHead h) := by
 unfold spec_IsHeading.f pHead; split <;> simp <;> omega
theorem impl_IsHeading_eq (h : Int) : impl_IsHeading.f h = some (pHead h) := by
 simp only [impl_IsHeading.f, impl_isWithin_eq, Option.bind_some, pHead]
def pMeas (x : Int) : Bool := decide (-4096 ≤ x) && decide (x ≤ 4096)
theorem spec_IsMeasure_eq (x : Int) : spec_IsMeasure.f x = some (pMeas x) := by
 unfold spec_IsMeasure.f pMeas; split <;> simp <;> omega
def pMeas' (x : Int) : Bool := decide (-4096 ≤ x) && decide (x ≤ 4096)
theorem impl_IsMeasure_eq (x : Int) : impl_IsMeasure.f x = some (pMeas' x) := by
 simp only [impl_IsMeasure.f, impl_isWithin_eq, Option.bind_some, pMeas']
def pPlace (x y : Int) : Bool := (decide (-4096 ≤ x) && decide (x ≤ 4096)) && (decide (-4096 ≤ y) && decide (y ≤ 4096))
theorem spec_IsPlace_eq (x y : Int) : spec_IsPlace.f x y = some (pPlace x y) := by
 simp only [spec_IsPlace.f, spec_IsMeasure_eq, Option.bind_some, pPlace, pMeas]
 cases (decide (-4096 ≤ x) && decide (x ≤ 4096)) <;> simp
theorem impl_IsPlace_eq (x y : Int) : impl_IsPlace.f x y = some (pPlace x y) := by
 simp only [impl_IsPlace.f, impl_IsMeasure_eq, Option.bind_some, pPlace, pMeas']
 cases (decide (-4096 ≤ x) && decide (x ≤ 4096)) <;> simp
def nmC (b : Int) (i : Nat) : Bool := (decide (97 ≤ b) && decide (b ≤ 122)) || ((decide (48 ≤ b) && decide (b ≤ 57)) && !decide (i = 0))
def nmR (a : ByteArray) : Nat → Nat → Bool
 | 0, _ => decide (1 ≤ (a.size : Int)) && decide ((a.size : Int) ≤ 8)
 | d + 1, i => nmC (bt a (i : Int)) i && nmR a d (i + 1)
def pName (a : ByteArray) : Bool := nmR a a.size 0
theorem spec_IsName_l0 (a : ByteArray) (ha : a.size ≤ 9223372036854775807) : ∀ (d i : Nat), i + d = a.size → Ev (fun k => spec_IsName.l0 k a (i : Int)) (nmR a d i) := by
 intro d
 induction d with
 | zero =>
  intro i h
  refine ev_succ ?_
  simp only [spec_IsName.l0, if_neg (show ¬ ((i : Int) < (a.size : Int)) by omega), nmR]
  refine ev_ite (fun c => ?_) (fun c => ?_)
  ·rw [decide_eq_true (show 1 ≤ (a.size : Int) by omega), Bool.true_and]; exact Ev.now _
  ·rw [decide_eq_false (show ¬ 1 ≤ (a.size : Int) by omega), Bool.false_and]; exact Ev.now _
 | succ d ih =>
  intro i h
  have ih' := ih (i + 1) (by omega)
  refine ev_succ ?_
  simp only [spec_IsName.l0, if_pos (show ((i : Int) < (a.size : Int)) by omega), if_pos (nn _), nmR]
  rw [show wrap64 ((i : Int) + 1) = ((i + 1 : Nat) : Int) by unfold wrap64; omega]
  generalize bt a (i : Int) = b
  have hi : ((i : Int) = 0) = (i = 0) := by simp
  simp only [nmC, hi]
  by_cases h1 : 97 ≤ b <;> by_cases h2 : b ≤ 122 <;> by_cases h3 : 48 ≤ b <;> by_cases h4 : b ≤ 57 <;> by_cases h5 : i = 0 <;> first | (exfalso; omega) | skip
  all_goals simp only [ge_iff_le, h1, h2, h3, h4, h5, decide_true, decide_false, Bool.true_and, Bool.false_and, Bool.and_true, Bool.and_false, Bool.or_true, Bool.true_or, Bool.or_false, Bool.false_or, Bool.not_true, Bool.not_false, if_true, if_false]
  all_goals first | exact Ev.now _ | exact ih' | (subst h5; exact ih')
theorem spec_IsName_ev (a : ByteArray) (ha : a.size ≤ 9223372036854775807) : Ev (fun k => spec_IsName.f k a) (pName a) := spec_IsName_l0 a ha a.size 0 (by omega)
theorem impl_IsName_l0 (a : ByteArray) (ha : a.size ≤ 9223372036854775807) : ∀ (d i : Nat), i + d = a.size → Ev (fun k => impl_IsName.l0 k a (a.size : Int) (i : Int)) (nmR a d i) := by
 intro d
 induction d with
 | zero =>
  intro i h
  refine ev_succ ?_
  simp only [impl_IsName.l0, if_neg (show ¬ ((i : Int) < (a.size : Int)) by omega), nmR, impl_isWithin_eq, Option.bind_some]
  exact Ev.now _
 | succ d ih =>
  intro i h
  have ih' := ih (i + 1) (by omega)
  refine ev_succ ?_
  simp only [impl_IsName.l0, if_pos (show ((i : Int) < (a.size : Int)) by omega), if_pos (nn _), nmR]
  rw [show wrap64 ((i : Int) + 1) = ((i + 1 : Nat) : Int) by unfold wrap64; omega]
  generalize bt a (i : Int) = b
  have hi : ((i : Int) = 0) = (i = 0) := by simp
  simp only [nmC, hi, gt_iff_lt, ← Int.not_le]
  by_cases h1 : 97 ≤ b <;> by_cases h2 : b ≤ 122 <;> by_cases h3 : 48 ≤ b <;> by_cases h4 : b ≤ 57 <;> by_cases h5 : i = 0 <;> first | (exfalso; omega) | skip
  all_goals simp only [ge_iff_le, h1, h2, h3, h4, h5, not_true_eq_false, not_false_eq_true, decide_true, decide_false, Bool.true_and, Bool.false_and, Bool.and_true, Bool.and_false, Bool.or_true, Bool.true_or, Bool.or_false, Bool.false_or, Bool.not_true, Bool.not_false, if_true, if_false]
  all_goals first | exact Ev.now _ | exact ih' | (subst h5; exact ih')
theorem impl_IsName_ev (a : ByteArray) (ha : a.size ≤ 9223372036854775807) : Ev (fun k => impl_IsName.f k a) (pName a) := impl_IsName_l0 a ha a.size 0 (by omega)
theorem bl_irrefl : ∀ x, Op.bytesLess x x = false
 | [] => rfl
 | a :: x => by
  simp only [Op.bytesLess, bl_irrefl x, Bool.and_false, Bool.or_false, decide_eq_false_iff_not]
  exact UInt8.lt_irrefl a
theorem bl_tri : ∀ x y, Op.bytesLess x y = false → Op.bytesLess y x = false → x = y
 | [], [], _, _ => rfl
 | [], _ :: _, h, _ => by simp [Op.bytesLess] at h
 | _ :: _, [], _, h => by simp [Op.bytesLess] at h
 | a :: x, b :: y, h, h' => by
  simp only [Op.bytesLess, Bool.or_eq_false_iff, decide_eq_false_iff_not] at h h'
  have hab : a = b := by
   have h1 := h.1; have h2 := h'.1
   exact UInt8.le_antisymm (UInt8.not_lt.1 h2) (UInt8.not_lt.1 h1)
  subst hab
  simp only [beq_self_eq_true, Bool.true_and] at h h'
  rw [bl_tri x y h.2 h'.2]
theorem bl_trans : ∀ x y z, Op.bytesLess x y = true → Op.bytesLess y z = true → Op.bytesLess x z = true
 | _, _, [], _, h => by cases ‹List UInt8› <;> simp [Op.bytesLess] at h
 | [], _, _ :: _, _, _ => rfl
 | _ :: _, [], _ :: _, h, _ => by simp [Op.bytesLess] at h
 | a :: x, b :: y, c :: z, h, h' => by
  simp only [Op.bytesLess, Bool.or_eq_true, decide_eq_true_eq, Bool.and_eq_true, beq_iff_eq] at h h' ⊢
  rcases h with h | ⟨h, h2⟩
  ·rcases h' with h' | ⟨h', h2'⟩
   ·exact .inl (UInt8.lt_trans h h')
   ·exact .inl (h' ▸ h)
  ·rcases h' with h' | ⟨h', h2'⟩
   ·exact .inl (h ▸ h')
   ·exact .inr ⟨h.trans h', bl_trans x y z h2 h2'⟩
/-- The order of cues. -/
def pCmpC (a : Int) (b : ByteArray) (c : Int) (d : ByteArray) : Int :=
 if a < c then -1 else if a = c then (if Op.bytesLess b.toList d.toList = true then -1 else if b.toList = d.toList then 0 else 1) else 1
theorem laws_markText_l0 : ∀ (d : Nat) (n : Int) (s : ByteArray), 0 ≤ n → n < 10 ^ d → s.size + d ≤ 1000 → ∃ r, Ev (fun k => laws_markText.l0 k n s) r := by
 intro d
 induction d with
 | zero =>
  intro n s h0 h1 h2
  have : n = 0 := by simp at h1; omega
  subst this
  refine ⟨(⟨#[109]⟩ : ByteArray) ++ s, ev_succ ?_⟩
  simp only [laws_markText.l0, if_neg (show ¬ ((0 : Int) > 0) by omega), if_pos (show 1 + s.size ≤ 9223372036854775807 by omega)]
  exact Ev.now _
 | succ d ih =>
  intro n s h0 h1 h2
  by_cases hn : n > 0
  ·have ht : Int.tdiv n 10 = n / 10 := Int.tdiv_eq_ediv_of_nonneg h0
   have hs : ∀ x : Int, (strOfNums [x]).size = 1 := fun x => rfl
   have h3 : n / 10 < 10 ^ d := by
    rw [Int.pow_succ] at h1
    generalize (10 : Int) ^ d = q at *
    omega
   by_cases hb : n / 10 < 9223372036854775808
   ·obtain ⟨r, e⟩ := ih (n / 10) (strOfNums [(wrap64 (48 + (Int.tmod n 10))) % 256] ++ s) (by omega) h3 (by rw [ByteArray.size_append, hs]; omega)
    refine ⟨r, ev_succ ?_⟩
    simp only [laws_markText.l0, if_pos hn, Option.bind_some, hs, if_pos (show 1 + s.size ≤ 9223372036854775807 by omega), ht]
    rw [show wrap64 (n / 10) = n / 10 by unfold wrap64; omega]
    exact e
   ·obtain ⟨r, e⟩ : ∃ r, Ev (fun k => laws_markText.l0 k (wrap64 (n / 10)) (strOfNums [(wrap64 (48 + (Int.tmod n 10))) % 256] ++ s)) r := by
     have : ¬ (wrap64 (n / 10) > 0 ∧ wrap64 (n / 10) ≥ 10 ^ d) ∨ True := .inr trivial
     clear this
     by_cases hp : wrap64 (n / 10) > 0
     ·refine ih _ _ (by omega) ?_ (by rw [ByteArray.size_append, hs]; omega)
      have : wrap64 (n / 10) ≤ n / 10 := by unfold wrap64; omega
      omega
     ·refine ⟨(⟨#[109]⟩ : ByteArray) ++ (strOfNums [(wrap64 (48 + (Int.tmod n 10))) % 256] ++ s), ev_succ ?_⟩
      simp only [laws_markText.l0, if_neg hp, ByteArray.size_append, hs, if_pos (show 1 + (1 + s.size) ≤ 9223372036854775807 by omega)]
      exact Ev.now _
    refine ⟨r, ev_succ ?_⟩
    simp only [laws_markText.l0, if_pos hn, Option.bind_some, hs, if_pos (show 1 + s.size ≤ 9223372036854775807 by omega), ht]
    exact e
  ·refine ⟨(⟨#[109]⟩ : ByteArray) ++ s, ev_succ ?_⟩
   simp only [laws_markText.l0, if_neg hn, if_pos (show 1 + s.size ≤ 9223372036854775807 by omega)]
   exact Ev.now _
theorem laws_markText_ex (n : Int) (h : n < 1000000000000000000000000000000) : ∃ r, Ev (fun k => laws_markText.f k n) r := by
 by_cases h0 : n ≤ 0
 ·refine ⟨(⟨#[109, 48]⟩ : ByteArray), ?_⟩
  simp only [laws_markText.f, if_pos h0]
  exact Ev.now _
 ·obtain ⟨r, e⟩ := laws_markText_l0 30 n ⟨#[]⟩ (by omega) (by simpa using h) (by decide)
  refine ⟨r, ?_⟩
  simp only [laws_markText.f, if_neg h0]
  exact e
/-- The mark's text. -/
noncomputable def mtT (n : Int) : ByteArray := @dite _ (∃ r, Ev (fun k => laws_markText.f k n) r) (Classical.propDecidable _) (fun h => Classical.choose h) (fun _ => ByteArray.empty)
theorem mtT_ev (n : Int) (h : n < 4611686018427387904) : Ev (fun k => laws_markText.f k n) (mtT n) := by
 have h' := laws_markText_ex n (by omega)
 rw [mtT, dif_pos h']
 exact Classical.choose_spec h'
def i16 (a lo hi : Int) : Bool := decide (lo ≤ a) && decide (a ≤ hi)
def pJet (a b c d e : Int) : Bool := i16 a (-1024) 1024 && (i16 b (-1024) 1024 && (pHead c && (i16 d 0 16 && i16 e 1 32)))
def pLineOk (n l : ByteArray) : Bool := pName l && !(l.toList == n.toList)
/-- IsDevice -/
def pDevice (n : ByteArray) (k : Int) (l : ByteArray) (a b c d e : Int) : Bool :=
 pName n && (if k = 1 then pSup e && (l.toList == ([] : List UInt8) && ((a == 0 && (b == 0)) && (c == 0 && (d == 0))))
  else if k = 2 then pLineOk n l && (pJet a b c d 1 && i16 e 0 32)
  else if k = 3 then pLineOk n l && (pPlace a b && (c == 0 && (d == 0 && (e == 0)))) else false)
theorem ev_and {c : Bool} {f : Nat → Option Bool} {b : Bool} (h : c = true → Ev f b) : Ev (fun k => if c = true then f k else some false) (c && b) := by
 cases c
 ·simp only [Bool.false_eq_true, if_false, Bool.false_and]; exact Ev.now _
 ·simp only [if_true, Bool.true_and]; exact h rfl
theorem so_and (c b : Bool) : (if c = true then some b else some false) = some (c && b) := by cases c <;> rfl
theorem spec_IsJet_eq (a b c d e : Int) : spec_IsJet.f a b c d e = some (pJet a b c d e) := by
 simp only [spec_IsJet.f, spec_l1In_eq, spec_IsHeading_eq, Option.bind_some, pJet, i16, so_and]
theorem spec_IsDevice_ev (n : ByteArray) (k : Int) (l : ByteArray) (a b c d e : Int) (hn : n.size ≤ 9223372036854775807) (hl : l.size ≤ 9223372036854775807) : Ev (fun q => spec_IsDevice.f q n k l a b c d e) (pDevice n k l a b c d e) := by
 have j : ∀ x : Bool, x = pLineOk n l → Ev (fun q => spec_IsDevice.j0 q x n k l a b c d e) (pDevice n k l a b c d e) := by
  intro x hx
  refine ev_succ ?_
  simp only [spec_IsDevice.j0, spec_l6Jet.f, spec_IsJet_eq, spec_l5Supply_eq, spec_IsPlace_eq, spec_l1In_eq, Option.bind_some, so_and]
  refine Ev.bind (spec_IsName_ev n hn) ?_
  rw [pDevice, hx]
  refine ev_and (fun _ => ?_)
  refine ev_ite (fun h => ?_) (fun h => ?_)
  ·rw [if_pos h]; exact Ev.now _
  ·rw [if_neg h]
   refine ev_ite (fun h => ?_) (fun h => ?_)
   ·rw [if_pos h]; exact Ev.now _
   ·rw [if_neg h]
    refine ev_ite (fun h => ?_) (fun h => ?_)
    ·rw [if_pos h]; exact Ev.now _
    ·rw [if_neg h]; exact Ev.now _
 unfold spec_IsDevice.f
 refine Ev.bind (spec_IsName_ev l hl) ?_
 refine ev_ite (fun h => ?_) (fun h => ?_)
 ·refine j _ ?_
  rw [pLineOk, h, Bool.true_and]; rfl
 ·refine j _ ?_
  rw [pLineOk, Bool.eq_false_iff.2 h, Bool.false_and]
theorem impl_IsJet_eq (a b c d e : Int) : impl_IsJet.f a b c d e = some (pJet a b c d e) := by
 simp only [impl_IsJet.f, impl_isWithin_eq, impl_IsHeading_eq, Option.bind_some, pJet, i16, so_and]
theorem impl_IsDevice_ev (n : ByteArray) (k : Int) (l : ByteArray) (a b c d e : Int) (hn : n.size ≤ 9223372036854775807) (hl : l.size ≤ 9223372036854775807) : Ev (fun q => impl_IsDevice.f q n k l a b c d e) (pDevice n k l a b c d e) := by
 simp only [impl_IsDevice.f, impl_IsJet_eq, impl_isSupply_eq, impl_IsPlace_eq, impl_isWithin_eq, Option.bind_some, so_and]
 refine Ev.bind (impl_IsName_ev n hn) ?_
 rw [pDevice]
 refine ev_and (fun _ => ?_)
 refine ev_ite (fun h => ?_) (fun h => ?_)
 ·rw [if_pos h, Bool.and_comm]; exact Ev.now _
 ·rw [if_neg h]
  refine ev_ite (fun h => ?_) (fun h => ?_)
  ·rw [if_pos h]
   refine Ev.bind (impl_IsName_ev l hl) ?_
   rw [pLineOk, Bool.and_assoc]
   refine ev_and (fun _ => ?_)
   by_cases e : l.toList = n.toList
   ·simp only [if_pos e, e, beq_self_eq_true, Bool.not_true, Bool.false_and]; exact Ev.now _
   ·simp only [if_neg e, beq_eq_false_iff_ne.2 e, Bool.not_false, Bool.true_and]; exact Ev.now _
  ·rw [if_neg h]
   refine ev_ite (fun h => ?_) (fun h => ?_)
   ·rw [if_pos h]
    rw [show (pLineOk n l && (pPlace a b && (c == 0 && (d == 0 && (e == 0))))) = ((c == 0 && (d == 0 && (e == 0))) && (pLineOk n l && pPlace a b)) by cases pLineOk n l <;> cases pPlace a b <;> cases (c == 0 && (d == 0 && (e == 0))) <;> rfl]
    refine ev_and (fun _ => ?_)
    refine Ev.bind (impl_IsName_ev l hl) ?_
    rw [pLineOk, Bool.and_assoc]
    refine ev_and (fun _ => ?_)
    by_cases e : l.toList = n.toList
    ·simp only [if_pos e, e, beq_self_eq_true, Bool.not_true, Bool.false_and]; exact Ev.now _
    ·simp only [if_neg e, beq_eq_false_iff_ne.2 e, Bool.not_false, Bool.true_and]; exact Ev.now _
   ·rw [if_neg h]; exact Ev.now _
abbrev De := S30
abbrev LDe := S25
def dIdx (x : ByteArray) : List De → Int → Int
 | [], _ => -1
 | a :: t, i => if a.f0.toList = x.toList then i else dIdx x t (i + 1)
/-- FindDevice -/
def pFind (l : List De) (x : ByteArray) : Int := dIdx x l 0
theorem dIdx_range (x : ByteArray) : ∀ (l : List De) (i : Int), dIdx x l i = -1 ∨ (i ≤ dIdx x l i ∧ dIdx x l i < i + l.length)
 | [], _ => .inl rfl
 | a :: t, i => by
  rw [dIdx]
  by_cases c : a.f0.toList = x.toList
  ·rw [if_pos c]; right; simp; omega
  ·rw [if_neg c]
   rcases dIdx_range x t (i + 1) with h | h
   ·exact .inl h
   ·right; simp at h ⊢; omega
theorem pFind_range (l : List De) (x : ByteArray) : pFind l x = -1 ∨ (0 ≤ pFind l x ∧ pFind l x < l.length) := by
 have := dIdx_range x l 0
 unfold pFind; omega
theorem spec_FindDevice_l0 (l : List De) (x : ByteArray) (hl : l.length < 1099511627776) : ∀ (suf pre : List De), l = pre ++ suf →
  Ev (fun k => spec_FindDevice.l0 k x l (l.length : Int) (pre.length : Int)) (dIdx x suf (pre.length : Int)) := by
 intro suf
 induction suf with
 | nil =>
  intro pre h
  refine ev_succ ?_
  simp only [spec_FindDevice.l0, if_neg (ixn h)]
  exact Ev.now _
 | cons a s ih =>
  intro pre h
  obtain ⟨h1, h2, h3, h4⟩ := ix h (by omega)
  refine ev_succ ?_
  simp only [spec_FindDevice.l0, if_pos h1, if_pos (nn _), Int.toNat_natCast, rd_T30, h2, h3]
  rw [dIdx]
  refine ev_ite (fun c => ?_) (fun c => ?_)
  ·rw [if_pos c]; exact Ev.now _
  ·rw [if_neg c]
   have := ih _ h4
   rwa [show ((pre ++ [a]).length : Int) = (pre.length : Int) + 1 by simp] at this ⊢
theorem spec_FindDevice_ev (l : List De) (x : ByteArray) (hl : l.length < 1099511627776) : Ev (fun k => spec_FindDevice.f k l x) (pFind l x) := spec_FindDevice_l0 l x hl l [] rfl
theorem impl_FindDevice_l0 (l : List De) (x : ByteArray) (hl : l.length < 1099511627776) : ∀ (suf pre : List De), l = pre ++ suf →
  Ev (fun k => impl_FindDevice.l0 k x l (l.length : Int) (pre.length : Int)) (dIdx x suf (pre.length : Int)) := by
 intro suf
 induction suf with
 | nil =>
  intro pre h
  refine ev_succ ?_
  simp only [impl_FindDevice.l0, if_neg (ixn h)]
  exact Ev.now _
 | cons a s ih =>
  intro pre h
  obtain ⟨h1, h2, h3, h4⟩ := ix h (by omega)
  refine ev_succ ?_
  simp only [impl_FindDevice.l0, if_pos h1, if_pos (nn _), Int.toNat_natCast, rd_T30, h2, h3]
  rw [dIdx]
  refine ev_ite (fun c => ?_) (fun c => ?_)
  ·rw [if_pos c]; exact Ev.now _
  ·rw [if_neg c]
   have := ih _ h4
   rwa [show ((pre ++ [a]).length : Int) = (pre.length : Int) + 1 by simp] at this ⊢
theorem impl_FindDevice_ev (l : List De) (x : ByteArray) (hl : l.length < 1099511627776) : Ev (fun k => impl_FindDevice.f k l x) (pFind l x) := impl_FindDevice_l0 l x hl l [] rfl
theorem laws_toDevice_eq (n : ByteArray) (k : Int) (l : ByteArray) (a b c d e : Int) : laws_toDevice.f n k l a b c d e = some (n, k, l, a, b, c, d, e) := rfl
def cvD (g : LDe) : De := ⟨g.f0, g.f1, g.f2, ⟨g.f3.f0, g.f3.f1⟩, g.f4, g.f5, g.f6⟩
theorem laws_toDeviceS_l0 (l : List LDe) (hl : l.length < 1099511627776) : ∀ (suf pre : List LDe), l = pre ++ suf →
  Ev (fun k => laws_toDeviceS.l0 k l (pre.map cvD ++ List.replicate suf.length z30) (pre.length : Int)) (l.map cvD) := by
 intro suf
 induction suf with
 | nil =>
  intro pre h
  refine ev_succ ?_
  simp only [laws_toDeviceS.l0, if_neg (ixn h)]
  simpa [h] using Ev.now (l.map cvD)
 | cons a t ih =>
  intro pre h
  obtain ⟨h1, h2, h3, h4⟩ := ix h (by omega)
  refine ev_succ ?_
  have h5 : (pre.length : Int) < ((pre.map cvD ++ List.replicate (a :: t).length z30).length : Int) := by simp; omega
  simp only [laws_toDeviceS.l0, if_pos h1, if_pos (nn _), laws_toDevice_eq, Option.bind_some, if_pos h5, Int.toNat_natCast, rd_T25, h2, h3]
  have := ih (pre ++ [a]) h4
  have hp : pre.length = (pre.map cvD).length := by simp
  rw [List.length_cons, List.replicate_succ, hp, set_app]
  simpa [cvD] using this
theorem laws_toDeviceS_ev (l : List LDe) (hl : l.length < 1099511627776) : Ev (fun k => laws_toDeviceS.f k l) (l.map cvD) := by
 have := laws_toDeviceS_l0 l hl l [] rfl
 simp only [laws_toDeviceS.f, if_pos (nn _), Int.toNat_natCast, if_pos (show l.length ≤ 3518437208883 by omega)]
 simpa using this
theorem laws_eqDevice_rfl (n : ByteArray) (k : Int) (l : ByteArray) (a b c d e : Int) : laws_eqDevice.f n k l a b c d e n k l a b c d e = some true := by simp [laws_eqDevice.f, laws_eqPlace_rfl]
theorem laws_eqDeviceS_l0 (x : List De) (hl : x.length < 1099511627776) : ∀ (d i : Nat), i + d = x.length → Ev (fun k => laws_eqDeviceS.l0 k x x (i : Int)) true := by
 intro d
 induction d with
 | zero =>
  intro i h
  refine ev_succ ?_
  simp only [laws_eqDeviceS.l0, if_neg (show ¬ ((i : Int) < (x.length : Int)) by omega)]
  exact Ev.now _
 | succ d ih =>
  intro i h
  refine ev_succ ?_
  simp only [laws_eqDeviceS.l0, if_pos (show ((i : Int) < (x.length : Int)) by omega), if_pos (nn _), laws_eqDevice_rfl, Option.bind_some, if_true]
  rw [show wrap64 ((i : Int) + 1) = ((i + 1 : Nat) : Int) by unfold wrap64; omega]
  exact ih (i + 1) (by omega)
theorem laws_eqDeviceS_rfl (x : List De) (hl : x.length < 1099511627776) : Ev (fun k => laws_eqDeviceS.f k x x) true := by
 simp only [laws_eqDeviceS.f, if_true]
 exact laws_eqDeviceS_l0 x hl x.length 0 (by omega)
theorem laws_szDevice_eq (n : ByteArray) (k : Int) (l : ByteArray) (a b c d e m : Int) (h0 : 0 ≤ m) (h1 : m ≤ 1048576) (hn : n.size ≤ maxLen) (hl : l.size ≤ maxLen) :
  ∃ r, r ≤ 1048576 ∧ laws_szDevice.f n k l a b c d e m = some r := by
 have hn' : (n.size : Int) ≤ 9223372036854775807 := by have : maxLen = 9223372036854775807 := rfl; omega
 have hl' : (l.size : Int) ≤ 9223372036854775807 := by have : maxLen = 9223372036854775807 := rfl; omega
 have hw : wrap64 (m - (n.size : Int)) = m - (n.size : Int) := by unfold wrap64; omega
 simp only [laws_szDevice.f, hw]
 by_cases c1 : m - (n.size : Int) < 0
 ·exact ⟨-1, by omega, by rw [if_pos c1]⟩
 ·rw [if_neg c1]
  have hw2 : wrap64 (m - (n.size : Int) - (l.size : Int)) = m - (n.size : Int) - (l.size : Int) := by unfold wrap64; omega
  rw [hw2]
  by_cases c2 : m - (n.size : Int) - (l.size : Int) < 0
  ·exact ⟨-1, by omega, by rw [if_pos c2]⟩
  ·exact ⟨m - (n.size : Int) - (l.size : Int), by omega, by rw [if_neg c2]⟩
theorem laws_szDeviceS_l0 (l : List LDe) (hl : l.length < 1099511627776) (hz : ∀ x ∈ l, x.f0.size ≤ maxLen ∧ x.f2.size ≤ maxLen) : ∀ (suf pre : List LDe) (n : Int), l = pre ++ suf → 0 ≤ n → n ≤ 1048576 →
  ∃ r, r ≤ 1048576 ∧ Ev (fun k => laws_szDeviceS.l0 k l n (pre.length : Int)) r := by
 intro suf
 induction suf with
 | nil =>
  intro pre n h h0 h1
  refine ⟨n, h1, ev_succ ?_⟩
  simp only [laws_szDeviceS.l0, if_neg (ixn h)]
  exact Ev.now _
 | cons a t ih =>
  intro pre n h h0 h1
  obtain ⟨g1, g2, g3, g4⟩ := ix h (by omega)
  have ha := hz a (by simp [h])
  obtain ⟨m, hm, em⟩ := laws_szDevice_eq a.f0 a.f1 a.f2 a.f3.f0 a.f3.f1 a.f4 a.f5 a.f6 n h0 h1 ha.1 ha.2
  by_cases hc : m < 0
  ·refine ⟨-1, by omega, ev_succ ?_⟩
   simp only [laws_szDeviceS.l0, if_pos g1, if_pos (nn _), Int.toNat_natCast, rd_T25, g2, em, Option.bind_some, if_pos hc]
   exact Ev.now _
  ·obtain ⟨r, hr, e⟩ := ih (pre ++ [a]) m g4 (by omega) (by omega)
   refine ⟨r, hr, ev_succ ?_⟩
   simp only [laws_szDeviceS.l0, if_pos g1, if_pos (nn _), Int.toNat_natCast, rd_T25, g2, g3, em, Option.bind_some, if_neg hc]
   exact e
theorem laws_szDeviceS_ev (l : List LDe) (n : Int) (hn : 0 ≤ n) (hn2 : n ≤ 1048576) (hl : l.length ≤ maxLen) (hz : ∀ x ∈ l, x.f0.size ≤ maxLen ∧ x.f2.size ≤ maxLen) :
  ∃ r, r ≤ 1048576 ∧ (0 ≤ r → l.length < 1099511627776) ∧ Ev (fun k => laws_szDeviceS.f k l n) r := by
 have hl' : (l.length : Int) ≤ 9223372036854775807 := by have : maxLen = 9223372036854775807 := rfl; omega
 by_cases hc : n - (l.length : Int) < 0
 ·refine ⟨-1, by omega, by omega, ?_⟩
  simp only [laws_szDeviceS.f]
  rw [show wrap64 (n - (l.length : Int)) = n - (l.length : Int) by unfold wrap64; omega]
  simp only [if_pos hc]; exact Ev.now _
 ·obtain ⟨r, hr, e⟩ := laws_szDeviceS_l0 l (by omega) hz l [] (n - (l.length : Int)) rfl (by omega) (by omega)
  refine ⟨r, hr, fun _ => by omega, ?_⟩
  simp only [laws_szDeviceS.f]
  rw [show wrap64 (n - (l.length : Int)) = n - (l.length : Int) by unfold wrap64; omega]
  simp only [if_neg hc]; exact e
def szD (l : List De) : Prop := ∀ c ∈ l, c.f0.size ≤ 9223372036854775807 ∧ c.f2.size ≤ 9223372036854775807
theorem szD_mid {l pre t : List De} {a : De} (h : szD l) (e : l = pre ++ a :: t) : a.f0.size ≤ 9223372036854775807 ∧ a.f2.size ≤ 9223372036854775807 := h a (by simp [e])
def dOk (d : De) : Bool := pDevice d.f0 d.f1 d.f2 d.f3.f0 d.f3.f1 d.f4 d.f5 d.f6
/-- The line of a device names such a device as it has to. -/
def pHung (l : List De) (d : De) : Bool := if d.f1 = 1 then true else if 0 ≤ pFind l d.f2 then ((l.getD (pFind l d.f2).toNat z30).f1 == d.f1 - 1) else false
theorem dOk_kind {d : De} (h : dOk d = true) : d.f1 = 1 ∨ d.f1 = 2 ∨ d.f1 = 3 := by
 unfold dOk pDevice at h
 by_cases h1 : d.f1 = 1
 ·exact .inl h1
 ·by_cases h2 : d.f1 = 2
  ·exact .inr (.inl h2)
  ·by_cases h3 : d.f1 = 3
   ·exact .inr (.inr h3)
   ·rw [if_neg h1, if_neg h2, if_neg h3, Bool.and_false] at h; cases h
def gRest (l : List De) : De → List De → Bool
 | _, [] => true
 | p, q :: t => dOk q && (Op.bytesLess p.f0.toList q.f0.toList && (pHung l q && gRest l q t))
def gAll (l : List De) : List De → Bool
 | [] => true
 | q :: t => dOk q && (pHung l q && gRest l q t)
/-- IsRig -/
def pRig (l : List De) : Bool := gAll l l && decide ((l.length : Int) ≤ 8)
theorem pRig_len {l : List De} (h : pRig l = true) : l.length ≤ 8 := by
 simp only [pRig, Bool.and_eq_true, decide_eq_true_eq] at h; omega
theorem spec_l6Hangs_ev (l : List De) (d : De) (hl : l.length < 1099511627776) (hd : dOk d = true) : Ev (fun k => spec_l6Hangs.f k l d.f0 d.f1 d.f2 d.f3.f0 d.f3.f1 d.f4 d.f5 d.f6) (pHung l d) := by
 unfold spec_l6Hangs.f
 refine Ev.bind (spec_FindDevice_ev l d.f2 hl) ?_
 unfold pHung
 rcases dOk_kind hd with h | h | h
 ·simp only [h, if_neg (show ¬ (1 : Int) = 2 by omega), if_neg (show ¬ (1 : Int) = 3 by omega), if_true]; exact Ev.now _
 ·simp only [h, if_true, if_neg (show ¬ (2 : Int) = 1 by omega)]
  refine ev_ite (fun c => ?_) (fun c => ?_)
  ·have := pFind_range l d.f2
   simp only [if_pos (show 0 ≤ pFind l d.f2 from c), if_pos (show pFind l d.f2 < (l.length : Int) by omega), rd_T30]
   exact Ev.now _
  ·rw [if_neg (show ¬ 0 ≤ pFind l d.f2 from c)]; exact Ev.now _
 ·simp only [h, if_true, if_neg (show ¬ (3 : Int) = 1 by omega), if_neg (show ¬ (3 : Int) = 2 by omega)]
  refine ev_ite (fun c => ?_) (fun c => ?_)
  ·have := pFind_range l d.f2
   simp only [if_pos (show 0 ≤ pFind l d.f2 from c), if_pos (show pFind l d.f2 < (l.length : Int) by omega), rd_T30]
   exact Ev.now _
  ·rw [if_neg (show ¬ 0 ≤ pFind l d.f2 from c)]; exact Ev.now _
theorem impl_isHung_ev (l : List De) (d : De) (hl : l.length < 1099511627776) (hd : dOk d = true) : Ev (fun k => impl_isHung.f k l d.f0 d.f1 d.f2 d.f3.f0 d.f3.f1 d.f4 d.f5 d.f6) (pHung l d) := by
 unfold impl_isHung.f pHung
 refine ev_ite (fun c => ?_) (fun c => ?_)
 ·rw [if_pos c]; exact Ev.now _
 ·rw [if_neg c]
  refine Ev.bind (impl_FindDevice_ev l d.f2 hl) ?_
  have hk := dOk_kind hd
  have hw : wrap64 (d.f1 - 1) = d.f1 - 1 := by unfold wrap64; omega
  rw [hw]
  refine ev_ite (fun c => ?_) (fun c => ?_)
  ·have := pFind_range l d.f2
   simp only [if_pos (show 0 ≤ pFind l d.f2 from c), if_pos (show pFind l d.f2 < (l.length : Int) by omega), rd_T30]
   exact Ev.now _
  ·rw [if_neg (show ¬ 0 ≤ pFind l d.f2 from c)]; exact Ev.now _
theorem spec_IsRig_l0 (l : List De) (hl : l.length < 1099511627776) (hz : szD l) : ∀ (suf pre : List De) (p : De), l = (pre ++ [p]) ++ suf →
  Ev (fun k => spec_IsRig.l0 k l l (l.length : Int) ((pre ++ [p]).length : Int)) (gRest l p suf && decide ((l.length : Int) ≤ 8)) := by
 intro suf
 induction suf with
 | nil =>
  intro pre p h
  refine ev_succ ?_
  simp only [spec_IsRig.l0, if_neg (ixn h), gRest, Bool.true_and]
  exact Ev.now _
 | cons a t ih =>
  intro pre p h
  obtain ⟨h1, h2, h3, h4⟩ := ix h (by omega)
  obtain ⟨h5, h6, h7, h8⟩ := ix2 h (by omega)
  have hza := szD_mid hz h
  refine ev_succ ?_
  simp only [spec_IsRig.l0, if_pos h1, if_pos (nn _), Int.toNat_natCast, rd_T30, h2, h3, h6, h7, if_pos h5, if_pos h8]
  rw [gRest]
  refine Ev.bind (spec_IsDevice_ev _ _ _ _ _ _ _ _ hza.1 hza.2) ?_
  change Ev (fun k => if dOk a = true then _ else _) _
  refine ev_ite (fun c1 => ?_) (fun c1 => ?_)
  ·rw [c1, Bool.true_and]
   refine ev_ite (fun c3 => ?_) (fun c3 => ?_)
   ·rw [c3, Bool.true_and]
    refine Ev.bind (spec_l6Hangs_ev l a hl c1) ?_
    refine ev_ite (fun c4 => ?_) (fun c4 => ?_)
    ·rw [c4, Bool.true_and]; exact ih (pre ++ [p]) a h4
    ·rw [Bool.eq_false_iff.2 c4, Bool.false_and, Bool.false_and]; exact Ev.now _
   ·rw [Bool.eq_false_iff.2 c3, Bool.false_and, Bool.false_and]; exact Ev.now _
  ·rw [Bool.eq_false_iff.2 c1, Bool.false_and, Bool.false_and]; exact Ev.now _
theorem spec_IsRig_ev (l : List De) (hl : l.length < 1099511627776) (hz : szD l) : Ev (fun k => spec_IsRig.f k l) (pRig l) := by
 unfold spec_IsRig.f pRig
 refine ev_succ ?_
 cases l with
 | nil =>
  simp only [spec_IsRig.l0]
  exact Ev.now _
 | cons a t =>
  obtain ⟨h1, h2, h3, h4⟩ := ix (l := a :: t) (pre := []) rfl (by omega)
  have hza := szD_mid (pre := []) hz rfl
  simp only [List.length_nil, Int.natCast_zero] at h1 h2 h3
  simp only [spec_IsRig.l0, if_pos h1, if_pos (show (0 : Int) ≤ 0 by omega), Int.toNat_zero, rd_T30, h2, h3, if_neg (show ¬ ((0 : Int) > 0) by omega)]
  rw [gAll]
  refine Ev.bind (spec_IsDevice_ev _ _ _ _ _ _ _ _ hza.1 hza.2) ?_
  change Ev (fun k => if dOk a = true then _ else _) _
  refine ev_ite (fun c1 => ?_) (fun c1 => ?_)
  ·rw [c1, Bool.true_and]
   refine Ev.bind (spec_l6Hangs_ev (a :: t) a hl c1) ?_
   refine ev_ite (fun c4 => ?_) (fun c4 => ?_)
   ·rw [c4, Bool.true_and]; exact spec_IsRig_l0 (a :: t) hl hz t [] a rfl
   ·rw [Bool.eq_false_iff.2 c4, Bool.false_and, Bool.false_and]; exact Ev.now _
  ·rw [Bool.eq_false_iff.2 c1, Bool.false_and, Bool.false_and]; exact Ev.now _
theorem impl_IsRig_l0 (l : List De) (hl : l.length < 1099511627776) (hz : szD l) : ∀ (suf pre : List De) (p : De), l = (pre ++ [p]) ++ suf →
  Ev (fun k => impl_IsRig.l0 k l l (l.length : Int) ((pre ++ [p]).length : Int)) (gRest l p suf) := by
 intro suf
 induction suf with
 | nil =>
  intro pre p h
  refine ev_succ ?_
  simp only [impl_IsRig.l0, if_neg (ixn h), gRest]
  exact Ev.now _
 | cons a t ih =>
  intro pre p h
  obtain ⟨h1, h2, h3, h4⟩ := ix h (by omega)
  obtain ⟨h5, h6, h7, h8⟩ := ix2 h (by omega)
  have hza := szD_mid hz h
  refine ev_succ ?_
  simp only [impl_IsRig.l0, if_pos h1, if_pos (nn _), Int.toNat_natCast, rd_T30, h2, h3, h6, h7, if_pos h5, if_pos h8]
  rw [gRest]
  refine Ev.bind (impl_IsDevice_ev _ _ _ _ _ _ _ _ hza.1 hza.2) ?_
  change Ev (fun k => if dOk a = true then _ else _) _
  refine ev_ite (fun c1 => ?_) (fun c1 => ?_)
  ·rw [c1, Bool.true_and]
   refine ev_ite (fun c3 => ?_) (fun c3 => ?_)
   ·rw [c3, Bool.true_and]
    refine Ev.bind (impl_isHung_ev l a hl c1) ?_
    refine ev_ite (fun c4 => ?_) (fun c4 => ?_)
    ·rw [c4, Bool.true_and]; exact ih (pre ++ [p]) a h4
    ·rw [Bool.eq_false_iff.2 c4, Bool.false_and]; exact Ev.now _
   ·rw [Bool.eq_false_iff.2 c3, Bool.false_and]; exact Ev.now _
  ·rw [Bool.eq_false_iff.2 c1, Bool.false_and]; exact Ev.now _
theorem impl_IsRig_ev (l : List De) (hl : l.length < 1099511627776) (hz : szD l) : Ev (fun k => impl_IsRig.f k l) (pRig l) := by
 unfold impl_IsRig.f pRig
 refine ev_ite (fun c => ?_) (fun c => ?_)
 ·rw [decide_eq_false (by omega), Bool.and_false]; exact Ev.now _
 rw [decide_eq_true (by omega), Bool.and_true]
 refine ev_succ ?_
 cases l with
 | nil =>
  simp only [impl_IsRig.l0]
  exact Ev.now _
 | cons a t =>
  obtain ⟨h1, h2, h3, h4⟩ := ix (l := a :: t) (pre := []) rfl (by omega)
  have hza := szD_mid (pre := []) hz rfl
  simp only [List.length_nil, Int.natCast_zero] at h1 h2 h3
  simp only [impl_IsRig.l0, if_pos h1, if_pos (show (0 : Int) ≤ 0 by omega), Int.toNat_zero, rd_T30, h2, h3, if_neg (show ¬ ((0 : Int) > 0) by omega)]
  rw [gAll]
  refine Ev.bind (impl_IsDevice_ev _ _ _ _ _ _ _ _ hza.1 hza.2) ?_
  change Ev (fun k => if dOk a = true then _ else _) _
  refine ev_ite (fun c1 => ?_) (fun c1 => ?_)
  ·rw [c1, Bool.true_and]
   refine Ev.bind (impl_isHung_ev (a :: t) a hl c1) ?_
   refine ev_ite (fun c4 => ?_) (fun c4 => ?_)
   ·rw [c4, Bool.true_and]; exact impl_IsRig_l0 (a :: t) hl hz t [] a rfl
   ·rw [Bool.eq_false_iff.2 c4, Bool.false_and]; exact Ev.now _
  ·rw [Bool.eq_false_iff.2 c1, Bool.false_and]; exact Ev.now _
theorem szD_map {l : List LDe} (hz : ∀ x ∈ l, x.f0.size ≤ maxLen ∧ x.f2.size ≤ maxLen) : szD (l.map cvD) := by
 intro c hc
 obtain ⟨x, hx, rfl⟩ := List.mem_map.1 hc
 exact hz x hx
theorem laws_markDeviceS_l0 : ∀ (suf pre : List De) (c : Int), 0 ≤ c → pre.length + suf.length < 1099511627776 → c + 8 * suf.length < 4611686018427387000 →
  ∃ r, Ev (fun k => laws_markDeviceS.l0 k (pre ++ suf) c (pre.length : Int)) (c + 8 * suf.length, r) := by
 intro suf
 induction suf with
 | nil =>
  intro pre c _ _ _
  refine ⟨pre, ev_succ ?_⟩
  simp only [laws_markDeviceS.l0, if_neg (ixn (pre := pre) rfl)]
  simpa using Ev.now (c, pre)
 | cons a t ih =>
  intro pre c h0 hl hm
  simp only [List.length_cons] at hl hm
  obtain ⟨h1, h2, h3, h4⟩ := ix (l := pre ++ a :: t) rfl (by simp; omega)
  have hg : ∀ (b d : De), (pre ++ b :: t).getD pre.length d = b := fun b d => by simp [List.getD]
  obtain ⟨r, e⟩ := ih (pre ++ [⟨mtT c, c + 1, mtT (c + 2), ⟨c + 3, c + 4⟩, c + 5, c + 6, c + 7⟩]) (c + 8) (by omega) (by simp; omega) (by omega)
  refine ⟨r, ev_succ ?_⟩
  simp only [laws_markDeviceS.l0, if_pos h1]
  refine Ev.bind (mtT_ev c (by omega)) ?_
  simp only [if_pos (nn _), Int.toNat_natCast, set_app, Option.bind_some, rd_T30, hg]
  rw [show wrap64 (c + 1) = c + 1 by unfold wrap64; omega, show wrap64 (c + 1 + 1) = c + 2 by unfold wrap64; omega, show wrap64 (c + 2 + 1) = c + 3 by unfold wrap64; omega, show wrap64 (c + 3 + 1) = c + 4 by unfold wrap64; omega, show wrap64 (c + 4 + 1) = c + 5 by unfold wrap64; omega, show wrap64 (c + 5 + 1) = c + 6 by unfold wrap64; omega, show wrap64 (c + 6 + 1) = c + 7 by unfold wrap64; omega, show wrap64 (c + 7 + 1) = c + 8 by unfold wrap64; omega]
  refine Ev.bind (mtT_ev (c + 2) (by omega)) ?_
  rw [show wrap64 ((pre.length : Int) + 1) = ((pre ++ [(⟨mtT c, c + 1, mtT (c + 2), ⟨c + 3, c + 4⟩, c + 5, c + 6, c + 7⟩ : De)]).length : Int) by simp; unfold wrap64; omega, app1]
  simp only [List.length_cons]
  rwa [show c + 8 * ((t.length + 1 : Nat) : Int) = c + 8 + 8 * t.length by omega]
theorem laws_markDeviceS_ev (l : List De) (c : Int) (hl : l.length < 1099511627776) (h0 : 0 ≤ c) (h1 : c < 4611686018427) : ∃ r, Ev (fun k => laws_markDeviceS.f k l c) (c + 8 * l.length, r) :=
 laws_markDeviceS_l0 l [] c h0 (by simp; omega) (by omega)
noncomputable def dUpto : Nat → Int → List De
 | 0, _ => []
 | n + 1, c => ⟨mtT c, c + 1, mtT (c + 2), ⟨c + 3, c + 4⟩, c + 5, c + 6, c + 7⟩ :: dUpto n (c + 8)
theorem dUpto_length : ∀ n c, (dUpto n c).length = n
 | 0, _ => rfl
 | n + 1, c => by simp [dUpto, dUpto_length n]
theorem laws_markDeviceS_l1 : ∀ (suf pre : List De) (c : Int), 0 ≤ c → pre.length + suf.length < 1099511627776 → c + 8 * suf.length < 4611686018427387000 →
  Ev (fun k => laws_markDeviceS.l0 k (pre ++ suf) c (pre.length : Int)) (c + 8 * suf.length, pre ++ dUpto suf.length c) := by
 intro suf
 induction suf with
 | nil =>
  intro pre c _ _ _
  refine ev_succ ?_
  simp only [laws_markDeviceS.l0, if_neg (ixn (pre := pre) rfl)]
  simpa [dUpto] using Ev.now (c, pre)
 | cons a t ih =>
  intro pre c h0 hl hm
  simp only [List.length_cons] at hl hm
  obtain ⟨h1, h2, h3, h4⟩ := ix (l := pre ++ a :: t) rfl (by simp; omega)
  have hg : ∀ (b d : De), (pre ++ b :: t).getD pre.length d = b := fun b d => by simp [List.getD]
  have e := ih (pre ++ [⟨mtT c, c + 1, mtT (c + 2), ⟨c + 3, c + 4⟩, c + 5, c + 6, c + 7⟩]) (c + 8) (by omega) (by simp; omega) (by omega)
  refine ev_succ ?_
  simp only [laws_markDeviceS.l0, if_pos h1]
  refine Ev.bind (mtT_ev c (by omega)) ?_
  simp only [if_pos (nn _), Int.toNat_natCast, set_app, Option.bind_some, rd_T30, hg]
  rw [show wrap64 (c + 1) = c + 1 by unfold wrap64; omega, show wrap64 (c + 1 + 1) = c + 2 by unfold wrap64; omega, show wrap64 (c + 2 + 1) = c + 3 by unfold wrap64; omega, show wrap64 (c + 3 + 1) = c + 4 by unfold wrap64; omega, show wrap64 (c + 4 + 1) = c + 5 by unfold wrap64; omega, show wrap64 (c + 5 + 1) = c + 6 by unfold wrap64; omega, show wrap64 (c + 6 + 1) = c + 7 by unfold wrap64; omega, show wrap64 (c + 7 + 1) = c + 8 by unfold wrap64; omega]
  refine Ev.bind (mtT_ev (c + 2) (by omega)) ?_
  rw [show wrap64 ((pre.length : Int) + 1) = ((pre ++ [(⟨mtT c, c + 1, mtT (c + 2), ⟨c + 3, c + 4⟩, c + 5, c + 6, c + 7⟩ : De)]).length : Int) by simp; unfold wrap64; omega, app1]
  simp only [List.length_cons, dUpto]
  rw [show c + 8 * ((t.length + 1 : Nat) : Int) = c + 8 + 8 * t.length by omega]
  simpa using e
theorem laws_markDeviceS_ev' (l : List De) (c : Int) (hl : l.length < 1099511627776) (h0 : 0 ≤ c) (h1 : c < 4611686018427) : Ev (fun k => laws_markDeviceS.f k l c) (c + 8 * l.length, dUpto l.length c) := by
 have := laws_markDeviceS_l1 l [] c h0 (by simp; omega) (by omega)
 simpa [laws_markDeviceS.f] using this
theorem laws_heldDeviceS_l0 : ∀ (n : Nat) (pre : List De) (c : Int), 0 ≤ c → pre.length + n < 1099511627776 → c + 8 * n < 4611686018427387000 →
  Ev (fun k => laws_heldDeviceS.l0 k (pre ++ dUpto n c) c (pre.length : Int)) (c + 8 * n) := by
 intro n
 induction n with
 | zero =>
  intro pre c _ _ _
  refine ev_succ ?_
  simp only [laws_heldDeviceS.l0, dUpto, List.append_nil, if_neg (show ¬ ((pre.length : Int) < (pre.length : Int)) by omega)]
  simpa using Ev.now c
 | succ n ih =>
  intro pre c h0 hl hm
  obtain ⟨h1, h2, h3, h4⟩ := ix (l := pre ++ ⟨mtT c, c + 1, mtT (c + 2), ⟨c + 3, c + 4⟩, c + 5, c + 6, c + 7⟩ :: dUpto n (c + 8)) rfl (by simp [dUpto_length]; omega)
  refine ev_succ ?_
  simp only [laws_heldDeviceS.l0, dUpto, if_pos h1, if_pos (nn _), Int.toNat_natCast, rd_T30, h2, h3]
  rw [show wrap64 (c + 1) = c + 1 by unfold wrap64; omega, show wrap64 (c + 1 + 1) = c + 2 by unfold wrap64; omega, show wrap64 (c + 2 + 1) = c + 3 by unfold wrap64; omega, show wrap64 (c + 3 + 1) = c + 4 by unfold wrap64; omega, show wrap64 (c + 4 + 1) = c + 5 by unfold wrap64; omega, show wrap64 (c + 5 + 1) = c + 6 by unfold wrap64; omega, show wrap64 (c + 6 + 1) = c + 7 by unfold wrap64; omega, show wrap64 (c + 7 + 1) = c + 8 by unfold wrap64; omega, app1]
  refine Ev.bind (mtT_ev c (by omega)) ?_
  simp only [if_true]
  refine Ev.bind (mtT_ev (c + 2) (by omega)) ?_
  simp only [if_true]
  have := ih (pre ++ [⟨mtT c, c + 1, mtT (c + 2), ⟨c + 3, c + 4⟩, c + 5, c + 6, c + 7⟩]) (c + 8) (by omega) (by simp; omega) (by omega)
  rwa [show c + 8 * ((n + 1 : Nat) : Int) = c + 8 + 8 * n by omega]
theorem laws_heldDeviceS_ev (n : Nat) (hl : n < 1099511627776) : Ev (fun k => laws_heldDeviceS.f k (dUpto n 1) 1) (1 + 8 * n) := by
 have := laws_heldDeviceS_l0 n [] 1 (by omega) (by simp; omega) (by omega)
 simpa [laws_heldDeviceS.f] using this
theorem spec_l6Copies_eq (l : List De) (hl : l.length < 1099511627776) : spec_l6Copies.f l = some l := by
 simp only [spec_l6Copies.f, Option.bind_some, List.length_nil, if_pos (show 0 + l.length < 1759218604441 by omega), List.nil_append]
theorem impl_CloneD_eq (l : List De) (hl : l.length < 1099511627776) : impl_Device.f l = some l := by
 simp only [impl_Device.f, Option.bind_some, List.length_nil, if_pos (show 0 + l.length < 1759218604441 by omega), List.nil_append]
def dPos (x : ByteArray) : List De → Nat
 | [] => 0
 | d :: t => if Op.bytesLess d.f0.toList x.toList = true then dPos x t + 1 else 0
theorem dPos_le (x : ByteArray) : ∀ l, dPos x l ≤ l.length
 | [] => Nat.le_refl _
 | d :: t => by
  unfold dPos
  split
  ·have := dPos_le x t; simp; omega
  ·omega
def sIns (c : De) : List De → List De
 | [] => [c]
 | d :: t => if Op.bytesLess c.f0.toList d.f0.toList = true then c :: d :: t else d :: sIns c t
theorem sIns_eq (c : De) : ∀ l : List De, (∀ d ∈ l, d.f0.toList ≠ c.f0.toList) → sIns c l = l.take (dPos c.f0 l) ++ [c] ++ l.drop (dPos c.f0 l)
 | [], _ => rfl
 | d :: t, h => by
  have hd := h d (by simp)
  have ih := sIns_eq c t (fun x hx => h x (by simp [hx]))
  unfold sIns dPos
  by_cases h1 : Op.bytesLess d.f0.toList c.f0.toList = true
  ·have h2 : ¬ Op.bytesLess c.f0.toList d.f0.toList = true := fun h2 => by
    have := bl_trans _ _ _ h1 h2
    rw [bl_irrefl] at this; cases this
   rw [if_neg h2, if_pos h1, ih]; simp
  ·have h2 : Op.bytesLess c.f0.toList d.f0.toList = true := by
    cases hb : Op.bytesLess c.f0.toList d.f0.toList
    ·exact absurd (bl_tri _ _ (Bool.eq_false_iff.2 h1) hb) hd
    ·rfl
   rw [if_pos h2, if_neg h1]; simp
theorem dIdx_ne (x : ByteArray) : ∀ (l : List De) (i : Int), 0 ≤ i → ¬ dIdx x l i ≥ 0 → ∀ d ∈ l, d.f0.toList ≠ x.toList
 | [], _, _, _, d, hd => by cases hd
 | a :: t, i, h0, h, d, hd => by
  rw [dIdx] at h
  by_cases c : a.f0.toList = x.toList
  ·rw [if_pos c] at h; exact absurd h0 h
  ·rw [if_neg c] at h
   cases hd with
   | head => exact c
   | tail _ hd => exact dIdx_ne x t (i + 1) (by omega) h d hd
/-- AddDevice -/
def pAddD (l : List De) (c : De) : List De × Bool :=
 if pRig l = true ∧ dOk c = true ∧ ¬ pFind l c.f0 ≥ 0 ∧ ¬ (l.length : Int) = 8 ∧ pHung l c = true then (l.take (dPos c.f0 l) ++ [c] ++ l.drop (dPos c.f0 l), true) else (l, false)
theorem spec_AddDevice_l1 (l : List De) (c : De) (hl : l.length < 1099511627776) : ∀ (suf pre out : List De), l = pre ++ suf → out.length ≤ pre.length + 1 →
  Ev (fun k => spec_AddDevice.l0 k out true l (l.length : Int) (pre.length : Int) c.f0 c.f1 c.f2 c.f3.f0 c.f3.f1 c.f4 c.f5 c.f6) (out ++ suf, true) := by
 intro suf
 induction suf with
 | nil =>
  intro pre out h ho
  refine ev_succ ?_
  simp only [spec_AddDevice.l0, if_neg (ixn h), if_true, List.append_nil]
  exact Ev.now _
 | cons a s ih =>
  intro pre out h ho
  obtain ⟨h1, h2, h3, h4⟩ := ix h (by omega)
  have hll : l.length = pre.length + (s.length + 1) := by rw [h]; simp
  refine ev_succ ?_
  simp only [spec_AddDevice.l0, if_pos h1, if_pos (nn _), Int.toNat_natCast, rd_T30, h2, h3, if_true, if_pos (show out.length < 1759218604441 by omega)]
  have := ih (pre ++ [a]) (out ++ [a]) h4 (by simp; omega)
  simpa using this
theorem spec_AddDevice_l0 (l : List De) (c : De) (hl : l.length < 1099511627776) : ∀ (suf pre : List De), l = pre ++ suf →
  Ev (fun k => spec_AddDevice.l0 k pre false l (l.length : Int) (pre.length : Int) c.f0 c.f1 c.f2 c.f3.f0 c.f3.f1 c.f4 c.f5 c.f6) (pre ++ sIns c suf, true) := by
 intro suf
 induction suf with
 | nil =>
  intro pre h
  have hll : l.length = pre.length := by rw [h]; simp
  refine ev_succ ?_
  simp only [spec_AddDevice.l0, if_neg (ixn h), Bool.false_eq_true, if_false, if_pos (show pre.length < 1759218604441 by omega), sIns]
  exact Ev.now _
 | cons a s ih =>
  intro pre h
  obtain ⟨h1, h2, h3, h4⟩ := ix h (by omega)
  have hll : l.length = pre.length + (s.length + 1) := by rw [h]; simp
  refine ev_succ ?_
  simp only [spec_AddDevice.l0, if_pos h1, if_pos (nn _), Int.toNat_natCast, rd_T30, h2, h3, Bool.false_eq_true, if_false, if_pos (show pre.length < 1759218604441 by omega), Option.bind_some]
  rw [sIns]
  refine ev_ite (fun d => ?_) (fun d => ?_)
  ·rw [if_pos d]
   simp only [List.length_append, List.length_singleton, if_pos (show pre.length + 1 < 1759218604441 by omega)]
   have := spec_AddDevice_l1 l c hl s (pre ++ [a]) (pre ++ [c] ++ [a]) h4 (by simp)
   simpa using this
  ·rw [if_neg d]
   have := ih (pre ++ [a]) h4
   simpa using this
theorem spec_AddDevice_ev (l : List De) (c : De) (hl : l.length < 1099511627776) (hz : szD l) (hc : c.f0.size ≤ 9223372036854775807 ∧ c.f2.size ≤ 9223372036854775807) : Ev (fun k => spec_AddDevice.f k l c.f0 c.f1 c.f2 c.f3.f0 c.f3.f1 c.f4 c.f5 c.f6) (pAddD l c) := by
 have j1 : Ev (fun k => spec_AddDevice.j0 k l true c.f0 c.f1 c.f2 c.f3.f0 c.f3.f1 c.f4 c.f5 c.f6) (l, false) := by
  refine ev_succ ?_
  simp only [spec_AddDevice.j0, if_true, spec_l6Copies_eq l hl, Option.bind_some]; exact Ev.now _
 unfold spec_AddDevice.f pAddD
 refine Ev.bind (spec_IsRig_ev l hl hz) ?_
 refine ev_ite (fun h1 => ?_) (fun h1 => ?_)
 ·refine Ev.bind (spec_IsDevice_ev _ _ _ _ _ _ _ _ hc.1 hc.2) ?_
  change Ev (fun k => if dOk c = true then _ else _) _
  refine ev_ite (fun h2 => ?_) (fun h2 => ?_)
  ·refine Ev.bind (spec_FindDevice_ev l c.f0 hl) ?_
   refine ev_ite (fun h3 => ?_) (fun h3 => ?_)
   ·rw [if_neg (fun x => x.2.2.1 h3)]; exact j1
   ·refine ev_ite (fun h4 => ?_) (fun h4 => ?_)
    ·rw [if_neg (fun x => x.2.2.2.1 h4)]; exact j1
    ·refine Ev.bind (spec_l6Hangs_ev l c hl h2) ?_
     by_cases h5 : pHung l c = true
     ·rw [if_pos ⟨h1, h2, h3, h4, h5⟩, h5]
      refine ev_succ ?_
      simp only [spec_AddDevice.j0, Bool.not_true, Bool.false_eq_true, if_false]
      have := spec_AddDevice_l0 l c hl l [] rfl
      rw [sIns_eq c l (dIdx_ne c.f0 l 0 (by omega) h3)] at this
      simpa using this
     ·rw [if_neg (fun x => h5 x.2.2.2.2), Bool.eq_false_iff.2 h5]; exact j1
  ·rw [if_neg (fun x => h2 x.2.1)]; exact j1
 ·rw [if_neg (fun x => h1 x.1)]; exact j1
theorem insRowD_eq (l : List De) (c : De) (j : Nat) (hj : j ≤ l.length) (hl : l.length ≤ 1000) : insRow l (j : Int) ([c] : List De) = some (l.take j ++ [c] ++ l.drop j) := by
 unfold insRow
 rw [if_pos ⟨by omega, by omega, by omega, rfl⟩, Int.toNat_natCast]
theorem impl_AddDevice_l0 (l : List De) (c : De) (hl : l.length ≤ 1000) : ∀ (suf pre : List De), l = pre ++ suf →
  Ev (fun k => impl_AddDevice.l0 k l l (pre.length : Int) c.f0 c.f1 c.f2 c.f3.f0 c.f3.f1 c.f4 c.f5 c.f6) (l.take (pre.length + dPos c.f0 suf) ++ [c] ++ l.drop (pre.length + dPos c.f0 suf), true) := by
 intro suf
 induction suf with
 | nil =>
  intro pre h
  have hp : pre.length ≤ l.length := by rw [h]; simp
  refine ev_succ ?_
  simp only [impl_AddDevice.l0, if_neg (ixn h), dPos, Nat.add_zero]
  rw [show insRow l (pre.length : Int) ([(⟨c.f0, c.f1, c.f2, ⟨c.f3.f0, c.f3.f1⟩, c.f4, c.f5, c.f6⟩ : De)] : List De) = _ from insRowD_eq l c pre.length hp hl]
  exact Ev.now _
 | cons a s ih =>
  intro pre h
  have hp : pre.length ≤ l.length := by rw [h]; simp
  obtain ⟨h1, h2, h3, h4⟩ := ix h (by omega)
  refine ev_succ ?_
  simp only [impl_AddDevice.l0, if_pos h1, if_pos (nn _), Int.toNat_natCast, rd_T30, h2, h3]
  rw [dPos]
  refine ev_ite (fun d => ?_) (fun d => ?_)
  ·rw [if_pos d]
   have := ih _ h4
   rw [show (pre ++ [a]).length + dPos c.f0 s = pre.length + (dPos c.f0 s + 1) by simp; omega] at this
   exact this
  ·rw [if_neg d, Nat.add_zero]
   rw [show insRow l (pre.length : Int) ([(⟨c.f0, c.f1, c.f2, ⟨c.f3.f0, c.f3.f1⟩, c.f4, c.f5, c.f6⟩ : De)] : List De) = _ from insRowD_eq l c pre.length hp hl]
   exact Ev.now _
theorem impl_AddDevice_ev (l : List De) (c : De) (hl : l.length < 1099511627776) (hz : szD l) (hc : c.f0.size ≤ 9223372036854775807 ∧ c.f2.size ≤ 9223372036854775807) : Ev (fun k => impl_AddDevice.f k l c.f0 c.f1 c.f2 c.f3.f0 c.f3.f1 c.f4 c.f5 c.f6) (pAddD l c) := by
 have j1 : Ev (fun k => impl_AddDevice.j0 k l l true c.f0 c.f1 c.f2 c.f3.f0 c.f3.f1 c.f4 c.f5 c.f6) (l, false) := by
  refine ev_succ ?_
  simp only [impl_AddDevice.j0, if_true]; exact Ev.now _
 simp only [impl_AddDevice.f, impl_CloneD_eq l hl, Option.bind_some, pAddD]
 refine Ev.bind (impl_IsRig_ev l hl hz) ?_
 refine ev_ite (fun h1 => ?_) (fun h1 => ?_)
 ·have h8 := pRig_len h1
  refine Ev.bind (impl_IsDevice_ev _ _ _ _ _ _ _ _ hc.1 hc.2) ?_
  change Ev (fun k => if dOk c = true then _ else _) _
  refine ev_ite (fun h2 => ?_) (fun h2 => ?_)
  ·refine Ev.bind (impl_FindDevice_ev l c.f0 hl) ?_
   refine ev_ite (fun h3 => ?_) (fun h3 => ?_)
   ·rw [if_neg (fun x => x.2.2.1 h3)]; exact j1
   ·refine ev_ite (fun h4 => ?_) (fun h4 => ?_)
    ·rw [if_neg (fun x => x.2.2.2.1 (by omega))]; exact j1
    ·refine Ev.bind (impl_isHung_ev l c hl h2) ?_
     by_cases h5 : pHung l c = true
     ·rw [if_pos ⟨h1, h2, h3, by omega, h5⟩, h5]
      refine ev_succ ?_
      simp only [impl_AddDevice.j0, Bool.not_true, Bool.false_eq_true, if_false]
      have := impl_AddDevice_l0 l c (by omega) l [] rfl
      simpa using this
     ·rw [if_neg (fun x => h5 x.2.2.2.2), Bool.eq_false_iff.2 h5]; exact j1
  ·rw [if_neg (fun x => h2 x.2.1)]; exact j1
 ·rw [if_neg (fun x => h1 x.1)]; exact j1
theorem pAddD_len (l : List De) (c : De) (hl : l.length < 1099511627776) : (pAddD l c).1.length < 1099511627776 := by
 unfold pAddD
 split
 ·rename_i h
  have := pRig_len h.1
  simp only [List.length_append, List.length_take, List.length_drop, List.length_singleton]; omega
 ·exact hl
theorem FnExactAddDevice : laws_FnExactAddDevice.Pure := by
 intro l n k l2 a b x y e0 hm _ hx hn _ hl2 _ _ _ _ _
 refine Ev.rounds ?_
 have hz : ∀ x ∈ l, x.f0.size ≤ maxLen ∧ x.f2.size ≤ maxLen := fun x h => ⟨(hx x h).1, (hx x h).2.2.1⟩
 obtain ⟨r, hrm, hr, e⟩ := laws_szDeviceS_ev l 1048576 (by omega) (by omega) hm hz
 unfold laws_FnExactAddDevice.f
 refine Ev.bind e ?_
 refine ev_ite (fun _ => Ev.now _) (fun h => ?_)
 have hl := hr (by omega)
 obtain ⟨m, hm2, em⟩ := laws_szDevice_eq n k l2 a b x y e0 r (by omega) hrm hn hl2
 simp only [em, laws_toDevice_eq, Option.bind_some]
 refine ev_ite (fun _ => Ev.now _) (fun h => ?_)
 have hl' : (l.map cvD).length < 1099511627776 := by simpa using hl
 have hc : (⟨n, k, l2, ⟨a, b⟩, x, y, e0⟩ : De).f0.size ≤ 9223372036854775807 ∧ (⟨n, k, l2, ⟨a, b⟩, x, y, e0⟩ : De).f2.size ≤ 9223372036854775807 := ⟨hn, hl2⟩
 have hs := spec_AddDevice_ev (l.map cvD) ⟨n, k, l2, ⟨a, b⟩, x, y, e0⟩ hl' (szD_map hz) hc
 have hi := impl_AddDevice_ev (l.map cvD) ⟨n, k, l2, ⟨a, b⟩, x, y, e0⟩ hl' (szD_map hz) hc
 have hq := pAddD_len (l.map cvD) ⟨n, k, l2, ⟨a, b⟩, x, y, e0⟩ hl'
 generalize pAddD (l.map cvD) ⟨n, k, l2, ⟨a, b⟩, x, y, e0⟩ = q at hs hi hq
 refine Ev.bind (laws_toDeviceS_ev l hl) ?_
 refine Ev.bind hs ?_
 refine Ev.bind (laws_toDeviceS_ev l hl) ?_
 refine Ev.bind hi ?_
 refine Ev.bind (laws_eqDeviceS_rfl q.1 hq) ?_
 simp only [if_true, bne_self_eq_false]
 refine ev_succ ?_
 simp only [laws_FnExactAddDevice.j0, Bool.false_eq_true, if_false]
 refine Ev.bind (laws_toDeviceS_ev l hl) ?_
 refine Ev.bind (laws_eqDeviceS_rfl _ hl') ?_
 simp only [if_true]
 refine Ev.bind (laws_markDeviceS_ev' _ 1 hl' (by omega) (by omega)) ?_
 simp only [if_neg (show ¬ (1 + 8 * ((l.map cvD).length : Int) < 0) by omega)]
 refine Ev.bind (laws_eqDeviceS_rfl q.1 hq) ?_
 simp only [if_true, bne_self_eq_false]
 refine ev_succ ?_
 simp only [laws_FnExactAddDevice.j1, Bool.false_eq_true, if_false]
 refine Ev.bind (laws_markDeviceS_ev' q.1 1 hq (by omega) (by omega)) ?_
 refine Ev.bind (laws_heldDeviceS_ev q.1.length hq) ?_
 simp only [if_neg (show ¬ (1 + 8 * (q.1.length : Int) < 0) by omega), if_true, laws_toDevice_eq, Option.bind_some]
 refine Ev.bind (laws_toDeviceS_ev l hl) ?_
 refine Ev.bind hi ?_
 refine Ev.bind (laws_eqDeviceS_rfl q.1 hq) ?_
 simp only [if_true, bne_self_eq_false]
 refine ev_succ ?_
 simp only [laws_FnExactAddDevice.j2, Bool.false_eq_true, if_false]
 refine Ev.bind (laws_heldDeviceS_ev q.1.length hq) ?_
 simp only [if_neg (show ¬ (1 + 8 * (q.1.length : Int) < 0) by omega), if_true]
 exact Ev.now _

end Go.Proofs.Ytkedcokhcgklpaa.Pure
