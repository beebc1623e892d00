/- The law FnExactEndOf comes to true for every input: The program's EndOf returns what the reference's returns, for all arguments. No condition beside the statement's own. -/
import Derived.Test.YtamddnjcgnidiaaStFnExactEndOf
namespace Go.Proofs.Ytamddnjcgnidiaa.Pure
open Go Go.RowKit Go.Proofs.Ytamddnjcgnidiaa.MFnExactEndOf Go.Proofs.YtamddnjcgnidiaaW.PrintWords Go.Proofs.YtamddnjcgnidiaaW.PrintLast Go.Proofs.YtamddnjcgnidiaaW.PrintMore
set_option linter.unusedVariables false
set_option linter.unusedSimpArgs false

theorem ev_succ {α : Type} {g : Nat → Option α} {r : α} (h : Ev (fun k => g (k + 1)) r) : Ev g r := Ev.step (fun _ => rfl) h
theorem ev_ite {α : Type} {c : Prop} [Decidable c] {f g : Nat → Option α} {r : α} (h : c → Ev f r) (h' : ¬ c → Ev g r) : Ev (fun k => if c then f k else g k) r := by
  by_cases hc : c
  · simp only [if_pos hc]; exact h hc
  · simp only [if_neg hc]; exact h' hc
theorem ix {α : Type} {l pre t : List α} {a : α} (h : l = pre ++ a :: t) (hl : l.length < 4611686018427387904) :
    (pre.length : Int) < (l.length : Int) ∧ (∀ d, l.getD pre.length d = a) ∧ wrap64 ((pre.length : Int) + 1) = ((pre ++ [a]).length : Int) ∧ l = (pre ++ [a]) ++ t := by
  subst h
  simp only [List.length_append, List.length_cons, List.length_nil] at *
  refine ⟨by omega, fun d => by simp [List.getD], by unfold wrap64; omega, by simp⟩
theorem ixn {α : Type} {l pre : List α} (h : l = pre ++ []) : ¬ (pre.length : Int) < (l.length : Int) := by
  subst h; simp
theorem nn (n : Nat) : (0 : Int) ≤ (n : Int) := Int.natCast_nonneg n
theorem w64 {n : Int} (h0 : -9223372036854775808 ≤ n) (h1 : n < 9223372036854775808) : wrap64 n = n := by unfold wrap64; omega
theorem mn_min (a b : Int) : mn a b = min a b := by unfold mn; omega
theorem mx_max (a b : Int) : mx a b = max a b := by unfold mx; omega
theorem set_app {α : Type} (pre t : List α) (a b : α) : (pre ++ a :: t).set pre.length b = pre ++ b :: t := by simp
theorem app1 {α : Type} (pre : List α) (a : α) (t : List α) : pre ++ a :: t = (pre ++ [a]) ++ t := by simp

/-- The numbers from c on, n of them. -/
def upto : Nat → Int → List Int
  | 0, _ => []
  | n + 1, c => c :: upto n (c + 1)
theorem upto_length : ∀ n c, (upto n c).length = n
  | 0, _ => rfl
  | n + 1, c => by simp [upto, upto_length n]

theorem spec_l1In_eq (a b c : Int) : spec_l1In.f a b c = some (decide (b ≤ a) && decide (a ≤ c)) := by
  unfold spec_l1In.f; split <;> simp <;> omega
theorem impl_isWithin_eq (a b c : Int) : impl_isWithin.f a b c = some (decide (b ≤ a) && decide (a ≤ c)) := by
  unfold impl_isWithin.f; split <;> simp <;> omega
theorem ix2 {α : Type} {l pre t : List α} {p a : α} (h : l = (pre ++ [p]) ++ a :: t) (hl : l.length < 4611686018427387904) :
    (((pre ++ [p]).length : Int)) > 0 ∧ wrap64 (((pre ++ [p]).length : Int) - 1) = (pre.length : Int) ∧ (∀ d, l.getD pre.length d = p) ∧ (pre.length : Int) < (l.length : Int) := by
  subst h
  simp only [List.length_append, List.length_cons, List.length_nil] at *
  refine ⟨by omega, by unfold wrap64; omega, fun d => by simp [List.getD], by omega⟩
theorem ev_eq {α : Type} {f g : Nat → Option α} {r : α} (h : f = g) (k : Ev g r) : Ev f r := h ▸ k
def pCmpI (a b : Int) : Int := if a < b then -1 else if a = b then 0 else 1
theorem cmp_Compare_int_eq (a b : Int) : cmp_Compare_int.f a b = some (pCmpI a b) := by
  simp only [cmp_Compare_int.f, cmp_isNaN_int.f, bne_self_eq_false, Option.bind_some, Bool.false_eq_true, if_false, pCmpI]
  repeat' split
  all_goals first | rfl | omega
theorem cmp_Or_int_ev (a b : Int) : Ev (fun k => cmp_Or_int.f k [a, b]) (if a = 0 then b else a) := by
  unfold cmp_Or_int.f
  refine ev_succ ?_
  simp only [cmp_Or_int.l0, List.length_cons, List.length_nil, if_pos (show ((0 : Int) < ((0 + 1 + 1 : Nat) : Int)) by omega), if_pos (show (0 : Int) ≤ 0 by omega), rd, Int.toNat_zero, List.getD_cons_zero]
  refine ev_ite (fun h => ?_) (fun h => ?_)
  · rw [if_pos h, show wrap64 (0 + 1) = 1 by unfold wrap64; omega]
    refine ev_succ ?_
    simp only [cmp_Or_int.l0, List.length_cons, List.length_nil, if_pos (show ((1 : Int) < ((0 + 1 + 1 : Nat) : Int)) by omega), if_pos (show (0 : Int) ≤ 1 by omega), rd, show ((1 : Int).toNat) = 1 from rfl, List.getD_cons_succ, List.getD_cons_zero]
    refine ev_ite (fun h2 => ?_) (fun h2 => Ev.now _)
    rw [show wrap64 (1 + 1) = 2 by unfold wrap64; omega, h2]
    refine ev_succ ?_
    simp only [cmp_Or_int.l0, List.length_cons, List.length_nil, if_neg (show ¬ ((2 : Int) < ((0 + 1 + 1 : Nat) : Int)) by omega)]
    exact Ev.now _
  · rw [if_neg h]; exact Ev.now _
theorem spec_l1Max_eq (a b : Int) : spec_l1Max.f a b = some (max a b) := by
  unfold spec_l1Max.f; split <;> simp <;> omega
abbrev Cu := S26
abbrev LCu := S23
def nmC (b : Int) (i : Nat) : Bool := (decide (97 ≤ b) && decide (b ≤ 122)) || ((decide (48 ≤ b) && decide (b ≤ 57)) && !decide (i = 0))
def nmR (a : ByteArray) : Nat → Nat → Bool
  | 0, _ => decide (1 ≤ (a.size : Int)) && decide ((a.size : Int) ≤ 8)
  | d + 1, i => nmC (bt a (i : Int)) i && nmR a d (i + 1)
def pName (a : ByteArray) : Bool := nmR a a.size 0
theorem spec_IsName_l0 (a : ByteArray) (ha : a.size ≤ 9223372036854775807) : ∀ (d i : Nat), i + d = a.size → Ev (fun k => spec_IsName.l0 k a (i : Int)) (nmR a d i) := by
  intro d
  induction d with
  | zero =>
    intro i h
    refine ev_succ ?_
    simp only [spec_IsName.l0, if_neg (show ¬ ((i : Int) < (a.size : Int)) by omega), nmR]
    refine ev_ite (fun c => ?_) (fun c => ?_)
    · rw [decide_eq_true (show 1 ≤ (a.size : Int) by omega), Bool.true_and]; exact Ev.now _
    · rw [decide_eq_false (show ¬ 1 ≤ (a.size : Int) by omega), Bool.false_and]; exact Ev.now _
  | succ d ih =>
    intro i h
    have ih' := ih (i + 1) (by omega)
    refine ev_succ ?_
    simp only [spec_IsName.l0, if_pos (show ((i : Int) < (a.size : Int)) by omega), if_pos (nn _), nmR]
    rw [show wrap64 ((i : Int) + 1) = ((i + 1 : Nat) : Int) by unfold wrap64; omega]
    generalize bt a (i : Int) = b
    have hi : ((i : Int) = 0) = (i = 0) := by simp
    simp only [nmC, hi]
    by_cases h1 : 97 ≤ b <;> by_cases h2 : b ≤ 122 <;> by_cases h3 : 48 ≤ b <;> by_cases h4 : b ≤ 57 <;> by_cases h5 : i = 0 <;> first | (exfalso; omega) | skip
    all_goals simp only [ge_iff_le, h1, h2, h3, h4, h5, decide_true, decide_false, Bool.true_and, Bool.false_and, Bool.and_true, Bool.and_false, Bool.or_true, Bool.true_or, Bool.or_false, Bool.false_or, Bool.not_true, Bool.not_false, if_true, if_false]
    all_goals first | exact Ev.now _ | exact ih' | (subst h5; exact ih')
theorem spec_IsName_ev (a : ByteArray) (ha : a.size ≤ 9223372036854775807) : Ev (fun k => spec_IsName.f k a) (pName a) := spec_IsName_l0 a ha a.size 0 (by omega)
theorem impl_IsName_l0 (a : ByteArray) (ha : a.size ≤ 9223372036854775807) : ∀ (d i : Nat), i + d = a.size → Ev (fun k => impl_IsName.l0 k a (a.size : Int) (i : Int)) (nmR a d i) := by
  intro d
  induction d with
  | zero =>
    intro i h
    refine ev_succ ?_
    simp only [impl_IsName.l0, if_neg (show ¬ ((i : Int) < (a.size : Int)) by omega), nmR, impl_isWithin_eq, Option.bind_some]
    exact Ev.now _
  | succ d ih =>
    intro i h
    have ih' := ih (i + 1) (by omega)
    refine ev_succ ?_
    simp only [impl_IsName.l0, if_pos (show ((i : Int) < (a.size : Int)) by omega), if_pos (nn _), nmR]
    rw [show wrap64 ((i : Int) + 1) = ((i + 1 : Nat) : Int) by unfold wrap64; omega]
    generalize bt a (i : Int) = b
    have hi : ((i : Int) = 0) = (i = 0) := by simp
    simp only [nmC, hi, gt_iff_lt, ← Int.not_le]
    by_cases h1 : 97 ≤ b <;> by_cases h2 : b ≤ 122 <;> by_cases h3 : 48 ≤ b <;> by_cases h4 : b ≤ 57 <;> by_cases h5 : i = 0 <;> first | (exfalso; omega) | skip
    all_goals simp only [ge_iff_le, h1, h2, h3, h4, h5, not_true_eq_false, not_false_eq_true, decide_true, decide_false, Bool.true_and, Bool.false_and, Bool.and_true, Bool.and_false, Bool.or_true, Bool.true_or, Bool.or_false, Bool.false_or, Bool.not_true, Bool.not_false, if_true, if_false]
    all_goals first | exact Ev.now _ | exact ih' | (subst h5; exact ih')
theorem impl_IsName_ev (a : ByteArray) (ha : a.size ≤ 9223372036854775807) : Ev (fun k => impl_IsName.f k a) (pName a) := impl_IsName_l0 a ha a.size 0 (by omega)
def pCue (t : Int) (n : ByteArray) (v r : Int) : Bool := (decide (0 ≤ t) && decide (t ≤ 64)) && (pName n && ((decide (0 ≤ v) && decide (v ≤ 32)) && (decide (0 ≤ r) && decide (r ≤ 16))))
theorem spec_IsCue_ev (t : Int) (n : ByteArray) (v r : Int) (hn : n.size ≤ 9223372036854775807) : Ev (fun k => spec_IsCue.f k t n v r) (pCue t n v r) := by
  simp only [spec_IsCue.f, spec_l1In_eq, Option.bind_some, pCue]
  refine ev_ite (fun c => ?_) (fun c => ?_)
  · rw [c, Bool.true_and]
    refine Ev.bind (spec_IsName_ev n hn) ?_
    refine ev_ite (fun c => ?_) (fun c => ?_)
    · rw [c, Bool.true_and]
      refine ev_ite (fun c => ?_) (fun c => ?_)
      · rw [c, Bool.true_and]; exact Ev.now _
      · rw [Bool.eq_false_iff.2 c, Bool.false_and]; exact Ev.now _
    · rw [Bool.eq_false_iff.2 c, Bool.false_and]; exact Ev.now _
  · rw [Bool.eq_false_iff.2 c, Bool.false_and]; exact Ev.now _
theorem impl_IsCue_ev (t : Int) (n : ByteArray) (v r : Int) (hn : n.size ≤ 9223372036854775807) : Ev (fun k => impl_IsCue.f k t n v r) (pCue t n v r) := by
  simp only [impl_IsCue.f, impl_isWithin_eq, Option.bind_some, pCue]
  refine ev_ite (fun c => ?_) (fun c => ?_)
  · rw [c, Bool.true_and]
    refine Ev.bind (impl_IsName_ev n hn) ?_
    refine ev_ite (fun c => ?_) (fun c => ?_)
    · rw [c, Bool.true_and]
      refine ev_ite (fun c => ?_) (fun c => ?_)
      · rw [c, Bool.true_and]; exact Ev.now _
      · rw [Bool.eq_false_iff.2 c, Bool.false_and]; exact Ev.now _
    · rw [Bool.eq_false_iff.2 c, Bool.false_and]; exact Ev.now _
  · rw [Bool.eq_false_iff.2 c, Bool.false_and]; exact Ev.now _
theorem laws_szCue_eq (t : Int) (n : ByteArray) (v r m : Int) (h0 : 0 ≤ m) (h1 : m ≤ 1048576) (hn : n.size ≤ maxLen) : laws_szCue.f t n v r m = some (if m - (n.size : Int) < 0 then -1 else m - (n.size : Int)) := by
  have : (n.size : Int) ≤ 9223372036854775807 := by have : maxLen = 9223372036854775807 := rfl; omega
  unfold laws_szCue.f
  rw [show wrap64 (m - (n.size : Int)) = m - (n.size : Int) by unfold wrap64; omega]
  split <;> rfl
theorem laws_toCue_eq (t : Int) (n : ByteArray) (v r : Int) : laws_toCue.f t n v r = some (t, n, v, r) := rfl
theorem bl_irrefl : ∀ x, Op.bytesLess x x = false
  | [] => rfl
  | a :: x => by
    simp only [Op.bytesLess, bl_irrefl x, Bool.and_false, Bool.or_false, decide_eq_false_iff_not]
    exact UInt8.lt_irrefl a
theorem bl_tri : ∀ x y, Op.bytesLess x y = false → Op.bytesLess y x = false → x = y
  | [], [], _, _ => rfl
  | [], _ :: _, h, _ => by simp [Op.bytesLess] at h
  | _ :: _, [], _, h => by simp [Op.bytesLess] at h
  | a :: x, b :: y, h, h' => by
    simp only [Op.bytesLess, Bool.or_eq_false_iff, decide_eq_false_iff_not] at h h'
    have hab : a = b := by
      have h1 := h.1; have h2 := h'.1
      exact UInt8.le_antisymm (UInt8.not_lt.1 h2) (UInt8.not_lt.1 h1)
    subst hab
    simp only [beq_self_eq_true, Bool.true_and] at h h'
    rw [bl_tri x y h.2 h'.2]
theorem bl_trans : ∀ x y z, Op.bytesLess x y = true → Op.bytesLess y z = true → Op.bytesLess x z = true
  | _, _, [], _, h => by cases ‹List UInt8› <;> simp [Op.bytesLess] at h
  | [], _, _ :: _, _, _ => rfl
  | _ :: _, [], _ :: _, h, _ => by simp [Op.bytesLess] at h
  | a :: x, b :: y, c :: z, h, h' => by
    simp only [Op.bytesLess, Bool.or_eq_true, decide_eq_true_eq, Bool.and_eq_true, beq_iff_eq] at h h' ⊢
    rcases h with h | ⟨h, h2⟩
    · rcases h' with h' | ⟨h', h2'⟩
      · exact .inl (UInt8.lt_trans h h')
      · exact .inl (h' ▸ h)
    · rcases h' with h' | ⟨h', h2'⟩
      · exact .inl (h ▸ h')
      · exact .inr ⟨h.trans h', bl_trans x y z h2 h2'⟩
/-- The order of cues. -/
def pCmpC (a : Int) (b : ByteArray) (c : Int) (d : ByteArray) : Int :=
  if a < c then -1 else if a = c then (if Op.bytesLess b.toList d.toList = true then -1 else if b.toList = d.toList then 0 else 1) else 1
theorem spec_CompareCues_ev (a : Int) (b : ByteArray) (v r c : Int) (d : ByteArray) (v' r' : Int) : Ev (fun k => spec_CompareCues.f k a b v r c d v' r') (pCmpC a b c d) := by
  unfold spec_CompareCues.f pCmpC
  refine ev_ite (fun h => ?_) (fun h => ?_)
  · rw [if_pos h, decide_eq_true h]
    refine ev_succ ?_
    simp only [spec_CompareCues.j0, if_true]; exact Ev.now _
  · rw [if_neg h]
    refine ev_ite (fun h1 => ?_) (fun h1 => ?_)
    · rw [if_pos h1]
      refine ev_succ ?_
      simp only [spec_CompareCues.j0]
      refine ev_ite (fun h2 => ?_) (fun h2 => ?_)
      · rw [if_pos h2]; exact Ev.now _
      · rw [if_neg h2]
        simp only [if_pos h1]
        refine ev_ite (fun h3 => ?_) (fun h3 => ?_)
        · rw [if_pos h3]; exact Ev.now _
        · rw [if_neg h3]; exact Ev.now _
    · rw [if_neg h1]
      refine ev_succ ?_
      simp only [spec_CompareCues.j0, Bool.false_eq_true, if_false, if_neg h1]; exact Ev.now _
def pCmpS (a b : ByteArray) : Int := if Op.bytesLess a.toList b.toList = true then -1 else if a.toList = b.toList then 0 else 1
theorem cmp_Compare_string_eq (a b : ByteArray) : cmp_Compare_string.f a b = some (pCmpS a b) := by
  simp only [cmp_Compare_string.f, cmp_isNaN_string.f, bne_self_eq_false, Option.bind_some, Bool.false_eq_true, if_false, pCmpS]
  split
  · rfl
  · rename_i h
    split
    · rename_i h2
      rw [if_neg]
      intro e
      rw [e, bl_irrefl] at h2
      cases h2
    · rename_i h2
      rw [if_pos (bl_tri _ _ (Bool.eq_false_iff.2 h) (Bool.eq_false_iff.2 h2))]
theorem impl_CompareCues_ev (a : Int) (b : ByteArray) (v r c : Int) (d : ByteArray) (v' r' : Int) : Ev (fun k => impl_CompareCues.f k a b v r c d v' r') (pCmpC a b c d) := by
  simp only [impl_CompareCues.f, cmp_Compare_int_eq, cmp_Compare_string_eq, Option.bind_some]
  have := cmp_Or_int_ev (pCmpI a c) (pCmpS b d)
  have e : (if pCmpI a c = 0 then pCmpS b d else pCmpI a c) = pCmpC a b c d := by
    unfold pCmpI pCmpC pCmpS
    by_cases h1 : a < c
    · simp [h1]
    · by_cases h2 : a = c
      · simp [h2]
      · simp [h1, h2]
  rw [e] at this
  exact Ev.bind this (Ev.now _)
/-- Every name of a list is a string that Go can hold. -/
def szN (l : List Cu) : Prop := ∀ c ∈ l, c.f1.size ≤ 9223372036854775807
def cOk (c : Cu) : Bool := pCue c.f0 c.f1 c.f2 c.f3
def cLt (a b : Cu) : Bool := decide (pCmpC a.f0 a.f1 b.f0 b.f1 < 0)
def sRest : Cu → List Cu → Bool
  | _, [] => true
  | p, q :: t => cOk q && (cLt p q && sRest q t)
def sAll : List Cu → Bool
  | [] => true
  | q :: t => cOk q && sRest q t
/-- IsScore -/
def pScore (l : List Cu) : Bool := sAll l && decide ((l.length : Int) ≤ 12)
theorem pScore_len {l : List Cu} (h : pScore l = true) : l.length ≤ 12 := by
  simp only [pScore, Bool.and_eq_true, decide_eq_true_eq] at h; omega
theorem szN_mid {l pre t : List Cu} {a : Cu} (h : szN l) (e : l = pre ++ a :: t) : a.f1.size ≤ 9223372036854775807 := h a (by simp [e])
theorem sRest_all : ∀ (l : List Cu) (p : Cu), sRest p l = true → ∀ c ∈ l, cOk c = true
  | [], _, _, c, hc => by cases hc
  | q :: t, p, h, c, hc => by
    simp only [sRest, Bool.and_eq_true] at h
    cases hc with
    | head => exact h.1
    | tail _ hc => exact sRest_all t q h.2.2 c hc
theorem sAll_all : ∀ (l : List Cu), sAll l = true → ∀ c ∈ l, cOk c = true
  | [], _, c, hc => by cases hc
  | q :: t, h, c, hc => by
    simp only [sAll, Bool.and_eq_true] at h
    cases hc with
    | head => exact h.1
    | tail _ hc => exact sRest_all t q h.2 c hc
theorem pScore_all {l : List Cu} (h : pScore l = true) : ∀ c ∈ l, cOk c = true := by
  simp only [pScore, Bool.and_eq_true] at h; exact sAll_all l h.1
theorem cLt_iff (a b : Cu) : cLt a b = true ↔ a.f0 < b.f0 ∨ (a.f0 = b.f0 ∧ Op.bytesLess a.f1.toList b.f1.toList = true) := by
  unfold cLt
  rw [decide_eq_true_iff]
  unfold pCmpC
  by_cases h1 : a.f0 < b.f0
  · simp [h1]
  · by_cases h2 : a.f0 = b.f0
    · rw [if_neg h1, if_pos h2]
      by_cases h3 : Op.bytesLess a.f1.toList b.f1.toList = true
      · simp [h2, h3]
      · rw [if_neg h3]
        split <;> simp [h1, h2, h3]
    · simp [h1, h2]
theorem cLt_trans {a b c : Cu} (h : cLt a b = true) (h' : cLt b c = true) : cLt a c = true := by
  rw [cLt_iff] at *
  rcases h with h | ⟨h, h2⟩
  · rcases h' with h' | ⟨h', _⟩ <;> exact .inl (by omega)
  · rcases h' with h' | ⟨h', h2'⟩
    · exact .inl (by omega)
    · exact .inr ⟨by omega, bl_trans _ _ _ h2 h2'⟩
theorem sRest_iff : ∀ (l : List Cu) (p : Cu), sRest p l = true ↔ (∀ c ∈ l, cOk c = true) ∧ (∀ c ∈ l, cLt p c = true) ∧ l.Pairwise (fun a b => cLt a b = true)
  | [], _ => by simp [sRest]
  | q :: t, p => by
    simp only [sRest, Bool.and_eq_true, sRest_iff t q, List.mem_cons, List.pairwise_cons, forall_eq_or_imp]
    constructor
    · rintro ⟨h1, h2, h3, h4, h5⟩
      exact ⟨⟨h1, h3⟩, ⟨h2, fun c hc => cLt_trans h2 (h4 c hc)⟩, h4, h5⟩
    · rintro ⟨⟨h1, h3⟩, ⟨h2, _⟩, h4, h5⟩
      exact ⟨h1, h2, h3, h4, h5⟩
theorem sAll_iff (l : List Cu) : sAll l = true ↔ (∀ c ∈ l, cOk c = true) ∧ l.Pairwise (fun a b => cLt a b = true) := by
  cases l with
  | nil => simp [sAll]
  | cons q t =>
    simp only [sAll, Bool.and_eq_true, sRest_iff, List.mem_cons, List.pairwise_cons, forall_eq_or_imp]
    constructor
    · rintro ⟨h1, h2, h3, h4⟩; exact ⟨⟨h1, h2⟩, h3, h4⟩
    · rintro ⟨⟨h1, h2⟩, h3, h4⟩; exact ⟨h1, h2, h3, h4⟩
theorem pScore_iff (l : List Cu) : pScore l = true ↔ ((∀ c ∈ l, cOk c = true) ∧ l.Pairwise (fun a b => cLt a b = true)) ∧ l.length ≤ 12 := by
  simp only [pScore, Bool.and_eq_true, sAll_iff, decide_eq_true_eq]
  have : ((l.length : Int) ≤ 12) ↔ l.length ≤ 12 := by omega
  rw [this]
theorem pScore_filter {l : List Cu} (h : pScore l = true) (p : Cu → Bool) : pScore (l.filter p) = true := by
  rw [pScore_iff] at *
  exact ⟨⟨fun c hc => h.1.1 c ((List.mem_filter.1 hc).1), h.1.2.sublist List.filter_sublist⟩, Nat.le_trans (List.length_filter_le _ _) h.2⟩
theorem spec_IsScore_l0 (l : List Cu) (hl : l.length < 1099511627776) (hz : szN l) : ∀ (suf pre : List Cu) (p : Cu), l = (pre ++ [p]) ++ suf →
    Ev (fun k => spec_IsScore.l0 k l l (l.length : Int) ((pre ++ [p]).length : Int)) (sRest p suf && decide ((l.length : Int) ≤ 12)) := by
  intro suf
  induction suf with
  | nil =>
    intro pre p h
    refine ev_succ ?_
    simp only [spec_IsScore.l0, if_neg (ixn h), sRest, Bool.true_and]
    exact Ev.now _
  | cons a t ih =>
    intro pre p h
    obtain ⟨h1, h2, h3, h4⟩ := ix h (by omega)
    obtain ⟨h5, h6, h7, h8⟩ := ix2 h (by omega)
    refine ev_succ ?_
    simp only [spec_IsScore.l0, if_pos h1, if_pos (nn _), Int.toNat_natCast, rd_T26, h2, h3, h6, h7, if_pos h5, if_pos h8]
    rw [sRest]
    refine Ev.bind (spec_IsCue_ev _ _ _ _ (szN_mid hz h)) ?_
    change Ev (fun k => if cOk a = true then _ else _) _
    refine ev_ite (fun c1 => ?_) (fun c1 => ?_)
    · rw [c1, Bool.true_and]
      refine Ev.bind (spec_CompareCues_ev _ _ _ _ _ _ _ _) ?_
      rw [cLt]
      refine ev_ite (fun c3 => ?_) (fun c3 => ?_)
      · rw [decide_eq_false (by omega), Bool.false_and, Bool.false_and]; exact Ev.now _
      · rw [decide_eq_true (by omega), Bool.true_and]; exact ih (pre ++ [p]) a h4
    · rw [Bool.eq_false_iff.2 c1, Bool.false_and, Bool.false_and]; exact Ev.now _
theorem spec_IsScore_ev (l : List Cu) (hl : l.length < 1099511627776) (hz : szN l) : Ev (fun k => spec_IsScore.f k l) (pScore l) := by
  unfold spec_IsScore.f pScore
  refine ev_succ ?_
  cases l with
  | nil =>
    simp only [spec_IsScore.l0]
    exact Ev.now _
  | cons a t =>
    obtain ⟨h1, h2, h3, h4⟩ := ix (l := a :: t) (pre := []) rfl (by omega)
    simp only [List.length_nil, Int.natCast_zero] at h1 h2 h3
    simp only [spec_IsScore.l0, if_pos h1, if_pos (show (0 : Int) ≤ 0 by omega), Int.toNat_zero, rd_T26, h2, h3, if_neg (show ¬ ((0 : Int) > 0) by omega)]
    rw [sAll]
    refine Ev.bind (spec_IsCue_ev _ _ _ _ (szN_mid (pre := []) hz rfl)) ?_
    change Ev (fun k => if cOk a = true then _ else _) _
    refine ev_ite (fun c1 => ?_) (fun c1 => ?_)
    · rw [c1, Bool.true_and]
      exact spec_IsScore_l0 (a :: t) hl hz t [] a rfl
    · rw [Bool.eq_false_iff.2 c1, Bool.false_and, Bool.false_and]; exact Ev.now _
theorem impl_IsScore_l0 (l : List Cu) (hl : l.length < 1099511627776) (hz : szN l) : ∀ (suf pre : List Cu) (p : Cu), l = (pre ++ [p]) ++ suf →
    Ev (fun k => impl_IsScore.l0 k l l (l.length : Int) ((pre ++ [p]).length : Int)) (sRest p suf && decide ((l.length : Int) ≤ 12)) := by
  intro suf
  induction suf with
  | nil =>
    intro pre p h
    refine ev_succ ?_
    simp only [impl_IsScore.l0, if_neg (ixn h), sRest, Bool.true_and]
    exact Ev.now _
  | cons a t ih =>
    intro pre p h
    obtain ⟨h1, h2, h3, h4⟩ := ix h (by omega)
    obtain ⟨h5, h6, h7, h8⟩ := ix2 h (by omega)
    refine ev_succ ?_
    simp only [impl_IsScore.l0, if_pos h1, if_pos (nn _), Int.toNat_natCast, rd_T26, h2, h3, h6, h7, if_pos h5, if_pos h8]
    rw [sRest]
    refine Ev.bind (impl_IsCue_ev _ _ _ _ (szN_mid hz h)) ?_
    change Ev (fun k => if cOk a = true then _ else _) _
    refine ev_ite (fun c1 => ?_) (fun c1 => ?_)
    · rw [c1, Bool.true_and]
      refine Ev.bind (impl_CompareCues_ev _ _ _ _ _ _ _ _) ?_
      rw [cLt]
      refine ev_ite (fun c3 => ?_) (fun c3 => ?_)
      · rw [decide_eq_false (by omega), Bool.false_and, Bool.false_and]; exact Ev.now _
      · rw [decide_eq_true (by omega), Bool.true_and]; exact ih (pre ++ [p]) a h4
    · rw [Bool.eq_false_iff.2 c1, Bool.false_and, Bool.false_and]; exact Ev.now _
theorem impl_IsScore_ev (l : List Cu) (hl : l.length < 1099511627776) (hz : szN l) : Ev (fun k => impl_IsScore.f k l) (pScore l) := by
  unfold impl_IsScore.f pScore
  refine ev_succ ?_
  cases l with
  | nil =>
    simp only [impl_IsScore.l0]
    exact Ev.now _
  | cons a t =>
    obtain ⟨h1, h2, h3, h4⟩ := ix (l := a :: t) (pre := []) rfl (by omega)
    simp only [List.length_nil, Int.natCast_zero] at h1 h2 h3
    simp only [impl_IsScore.l0, if_pos h1, if_pos (show (0 : Int) ≤ 0 by omega), Int.toNat_zero, rd_T26, h2, h3, if_neg (show ¬ ((0 : Int) > 0) by omega)]
    rw [sAll]
    refine Ev.bind (impl_IsCue_ev _ _ _ _ (szN_mid (pre := []) hz rfl)) ?_
    change Ev (fun k => if cOk a = true then _ else _) _
    refine ev_ite (fun c1 => ?_) (fun c1 => ?_)
    · rw [c1, Bool.true_and]
      exact impl_IsScore_l0 (a :: t) hl hz t [] a rfl
    · rw [Bool.eq_false_iff.2 c1, Bool.false_and, Bool.false_and]; exact Ev.now _
def cvC (g : LCu) : Cu := ⟨g.f0, g.f1, g.f2, g.f3⟩
theorem laws_toCueS_l0 (l : List LCu) (hl : l.length < 1099511627776) : ∀ (suf pre : List LCu), l = pre ++ suf →
    Ev (fun k => laws_toCueS.l0 k l (pre.map cvC ++ List.replicate suf.length z26) (pre.length : Int)) (l.map cvC) := by
  intro suf
  induction suf with
  | nil =>
    intro pre h
    refine ev_succ ?_
    simp only [laws_toCueS.l0, if_neg (ixn h)]
    simpa [h] using Ev.now (l.map cvC)
  | cons a t ih =>
    intro pre h
    obtain ⟨h1, h2, h3, h4⟩ := ix h (by omega)
    refine ev_succ ?_
    have h5 : (pre.length : Int) < ((pre.map cvC ++ List.replicate (a :: t).length z26).length : Int) := by simp; omega
    simp only [laws_toCueS.l0, if_pos h1, if_pos (nn _), laws_toCue_eq, Option.bind_some, if_pos h5, Int.toNat_natCast, rd_T23, h2, h3]
    have := ih (pre ++ [a]) h4
    have hp : pre.length = (pre.map cvC).length := by simp
    rw [List.length_cons, List.replicate_succ, hp, set_app]
    simpa [cvC] using this
theorem laws_toCueS_ev (l : List LCu) (hl : l.length < 1099511627776) : Ev (fun k => laws_toCueS.f k l) (l.map cvC) := by
  have := laws_toCueS_l0 l hl l [] rfl
  simp only [laws_toCueS.f, if_pos (nn _), Int.toNat_natCast, if_pos (show l.length ≤ 7036874417766 by omega)]
  simpa using this
theorem laws_eqCue_rfl (a : Int) (b : ByteArray) (c d : Int) : laws_eqCue.f a b c d a b c d = some true := by simp [laws_eqCue.f]
theorem laws_eqCueS_l0 (x : List Cu) (hl : x.length < 1099511627776) : ∀ (d i : Nat), i + d = x.length → Ev (fun k => laws_eqCueS.l0 k x x (i : Int)) true := by
  intro d
  induction d with
  | zero =>
    intro i h
    refine ev_succ ?_
    simp only [laws_eqCueS.l0, if_neg (show ¬ ((i : Int) < (x.length : Int)) by omega)]
    exact Ev.now _
  | succ d ih =>
    intro i h
    refine ev_succ ?_
    simp only [laws_eqCueS.l0, if_pos (show ((i : Int) < (x.length : Int)) by omega), if_pos (nn _), laws_eqCue_rfl, Option.bind_some, if_true]
    rw [show wrap64 ((i : Int) + 1) = ((i + 1 : Nat) : Int) by unfold wrap64; omega]
    exact ih (i + 1) (by omega)
theorem laws_eqCueS_rfl (x : List Cu) (hl : x.length < 1099511627776) : Ev (fun k => laws_eqCueS.f k x x) true := by
  simp only [laws_eqCueS.f, if_true]
  exact laws_eqCueS_l0 x hl x.length 0 (by omega)
theorem laws_szCueS_l0 (l : List LCu) (hl : l.length < 1099511627776) (hz : ∀ x ∈ l, x.f1.size ≤ maxLen) : ∀ (suf pre : List LCu) (n : Int), l = pre ++ suf → 0 ≤ n → n ≤ 1048576 →
    ∃ r, r ≤ 1048576 ∧ Ev (fun k => laws_szCueS.l0 k l n (pre.length : Int)) r := by
  intro suf
  induction suf with
  | nil =>
    intro pre n h h0 h1
    refine ⟨n, h1, ev_succ ?_⟩
    simp only [laws_szCueS.l0, if_neg (ixn h)]
    exact Ev.now _
  | cons a t ih =>
    intro pre n h h0 h1
    obtain ⟨g1, g2, g3, g4⟩ := ix h (by omega)
    have ha : a.f1.size ≤ maxLen := hz a (by simp [h])
    by_cases hc : n - (a.f1.size : Int) < 0
    · refine ⟨-1, by omega, ev_succ ?_⟩
      simp only [laws_szCueS.l0, if_pos g1, if_pos (nn _), Int.toNat_natCast, rd_T23, g2, laws_szCue_eq _ _ _ _ n h0 h1 ha, Option.bind_some, if_pos hc, if_pos (show (-1 : Int) < 0 by omega)]
      exact Ev.now _
    · obtain ⟨r, hr, e⟩ := ih (pre ++ [a]) (n - (a.f1.size : Int)) g4 (by omega) (by omega)
      refine ⟨r, hr, ev_succ ?_⟩
      simp only [laws_szCueS.l0, if_pos g1, if_pos (nn _), Int.toNat_natCast, rd_T23, g2, g3, laws_szCue_eq _ _ _ _ n h0 h1 ha, Option.bind_some, if_neg hc]
      exact e
theorem laws_szCueS_ev (l : List LCu) (n : Int) (hn : 0 ≤ n) (hn2 : n ≤ 1048576) (hl : l.length ≤ maxLen) (hz : ∀ x ∈ l, x.f1.size ≤ maxLen) :
    ∃ r, r ≤ 1048576 ∧ (0 ≤ r → l.length < 1099511627776) ∧ Ev (fun k => laws_szCueS.f k l n) r := by
  have hl' : (l.length : Int) ≤ 9223372036854775807 := by have : maxLen = 9223372036854775807 := rfl; omega
  by_cases hc : n - (l.length : Int) < 0
  · refine ⟨-1, by omega, by omega, ?_⟩
    simp only [laws_szCueS.f]
    rw [show wrap64 (n - (l.length : Int)) = n - (l.length : Int) by unfold wrap64; omega]
    simp only [if_pos hc]; exact Ev.now _
  · obtain ⟨r, hr, e⟩ := laws_szCueS_l0 l (by omega) hz l [] (n - (l.length : Int)) rfl (by omega) (by omega)
    refine ⟨r, hr, fun _ => by omega, ?_⟩
    simp only [laws_szCueS.f]
    rw [show wrap64 (n - (l.length : Int)) = n - (l.length : Int) by unfold wrap64; omega]
    simp only [if_neg hc]; exact e
theorem szN_map {l : List LCu} (hz : ∀ x ∈ l, x.f1.size ≤ maxLen) : szN (l.map cvC) := by
  intro c hc
  obtain ⟨x, hx, rfl⟩ := List.mem_map.1 hc
  exact hz x hx
def pEndL : List Cu → Int → Int
  | [], e => e
  | x :: t, e => pEndL t (if t.any (fun y => decide (y.f1.toList = x.f1.toList)) = true then e else max e (wrap64 (x.f0 + x.f3)))
/-- EndOf -/
def pEnd (l : List Cu) : Int := if pScore l = true then pEndL l 0 else 0
theorem spec_l1Max_eq2 (a b : Int) : spec_l1Max.f a b = some (max a b) := by
  unfold spec_l1Max.f; split <;> simp <;> omega
theorem spec_EndOf_l1 (l : List Cu) (hl : l.length < 1099511627776) (hz : szN l) (e : Int) (i : Nat) (c : Cu) (ys : List Cu) (hy : ys.length < 1099511627776) (R : Int) : ∀ (s2 p2 : List Cu) (x6 : Bool), ys = p2 ++ s2 →
    Ev (fun k => spec_EndOf.l0 k l (if pScore l = true then (if (x6 && s2.all (fun y => y.f1.toList != c.f1.toList)) = true then max e (wrap64 (c.f0 + c.f3)) else e) else e) l (l.length : Int) (wrap64 ((i : Int) + 1))) R →
    Ev (fun k => spec_EndOf.l1 k l e x6 l (l.length : Int) (i : Int) ys (ys.length : Int) (p2.length : Int) c.f0 c.f1 c.f2 c.f3) R := by
  intro s2
  induction s2 with
  | nil =>
    intro p2 x6 h g
    refine ev_succ ?_
    simp only [spec_EndOf.l1, if_neg (ixn h)]
    refine Ev.bind (spec_IsScore_ev l hl hz) ?_
    simp only [List.all_nil, Bool.and_true] at g
    refine ev_ite (fun d => ?_) (fun d => ?_)
    · rw [if_pos d] at g
      refine ev_ite (fun d2 => ?_) (fun d2 => ?_)
      · rw [if_pos d2] at g
        simp only [spec_l1Max_eq2, Option.bind_some]
        exact g
      · rw [if_neg d2] at g; exact g
    · rw [if_neg d] at g; exact g
  | cons a s ih =>
    intro p2 x6 h g
    obtain ⟨h1, h2, h3, h4⟩ := ix h (by omega)
    refine ev_succ ?_
    simp only [spec_EndOf.l1, if_pos h1, if_pos (nn _), Int.toNat_natCast, rd_T26, h2, h3]
    rw [List.all_cons] at g
    refine ev_ite (fun d => ?_) (fun d => ?_)
    · refine ih (p2 ++ [a]) _ h4 ?_
      rw [d, Bool.true_and] at g; exact g
    · refine ih (p2 ++ [a]) _ h4 ?_
      rw [Bool.eq_false_iff.2 d, Bool.false_and] at g
      rw [Bool.false_and]; exact g
theorem any_all (l : List Cu) (c : Cu) : l.any (fun y => decide (y.f1.toList = c.f1.toList)) = !(l.all (fun y => y.f1.toList != c.f1.toList)) := by
  induction l with
  | nil => rfl
  | cons a t ih =>
    rw [List.any_cons, List.all_cons, ih]
    by_cases h : a.f1.toList = c.f1.toList
    · simp [h]
    · simp [h]
theorem spec_EndOf_l0 (l : List Cu) (hl : l.length < 1099511627776) (hz : szN l) : ∀ (suf pre : List Cu) (e : Int), l = pre ++ suf →
    Ev (fun k => spec_EndOf.l0 k l e l (l.length : Int) (pre.length : Int)) (if pScore l = true then pEndL suf e else e) := by
  intro suf
  induction suf with
  | nil =>
    intro pre e h
    refine ev_succ ?_
    simp only [spec_EndOf.l0, if_neg (ixn h), pEndL]
    split <;> exact Ev.now _
  | cons a s ih =>
    intro pre e h
    obtain ⟨h1, h2, h3, h4⟩ := ix h (by omega)
    refine ev_succ ?_
    have hw : wrap64 ((pre.length : Int) + 1) = ((pre.length + 1 : Nat) : Int) := by unfold wrap64; omega
    have hd : l.drop (pre.length + 1) = s := by rw [h]; simp
    simp only [spec_EndOf.l0, if_pos h1, if_pos (nn _), Int.toNat_natCast, rd_T26, h2, hw, if_pos (show ((pre.length + 1 : Nat) : Int) ≤ (l.length : Int) by omega), Option.bind_some, hd]
    have hsl : s.length < 1099511627776 := by rw [h] at hl; simp at hl; omega
    refine spec_EndOf_l1 l hl hz e pre.length a s hsl _ s [] true rfl ?_
    rw [h3]
    have := ih (pre ++ [a]) (if pScore l = true then (if s.any (fun y => decide (y.f1.toList = a.f1.toList)) = true then e else max e (wrap64 (a.f0 + a.f3))) else e) h4
    rw [Bool.true_and]
    by_cases d : pScore l = true
    · rw [if_pos d] at this ⊢
      rw [if_pos d, pEndL]
      rw [if_pos d] at this
      rw [any_all] at this ⊢
      cases hb : s.all (fun y => y.f1.toList != a.f1.toList)
      · rw [hb] at this; simpa using this
      · rw [hb] at this; simpa using this
    · rw [if_neg d] at this ⊢
      rw [if_neg d] at this ⊢
      exact this
theorem spec_EndOf_ev (l : List Cu) (hl : l.length < 1099511627776) (hz : szN l) : Ev (fun k => spec_EndOf.f k l) (pEnd l) := spec_EndOf_l0 l hl hz l [] 0 rfl
theorem impl_EndOf_x0 (nm : ByteArray) (ys : List Cu) (hy : ys.length < 1099511627776) : ∀ (s p : List Cu), ys = p ++ s → Ev (fun k => impl_EndOf.x0 k nm ys (p.length : Int)) (s.any (fun y => decide (y.f1.toList = nm.toList))) := by
  intro s
  induction s with
  | nil =>
    intro p h
    refine ev_succ ?_
    simp only [impl_EndOf.x0, if_neg (ixn h)]
    exact Ev.now _
  | cons a s ih =>
    intro p h
    obtain ⟨h1, h2, h3, h4⟩ := ix h (by omega)
    refine ev_succ ?_
    simp only [impl_EndOf.x0, if_pos h1, if_pos (nn _), Int.toNat_natCast, rd_T26, h2, h3]
    rw [List.any_cons]
    refine ev_ite (fun c => ?_) (fun c => ?_)
    · rw [decide_eq_true c, Bool.true_or]; exact Ev.now _
    · rw [decide_eq_false c, Bool.false_or]; exact ih _ h4
theorem impl_EndOf_l0 (l : List Cu) (hl : l.length < 1099511627776) : ∀ (suf pre : List Cu) (e : Int), l = pre ++ suf →
    Ev (fun k => impl_EndOf.l0 k l e (pre.length : Int)) (pEndL suf e) := by
  intro suf
  induction suf with
  | nil =>
    intro pre e h
    refine ev_succ ?_
    simp only [impl_EndOf.l0, if_neg (ixn h), pEndL]
    exact Ev.now _
  | cons a s ih =>
    intro pre e h
    obtain ⟨h1, h2, h3, h4⟩ := ix h (by omega)
    refine ev_succ ?_
    have hw : wrap64 ((pre.length : Int) + 1) = ((pre.length + 1 : Nat) : Int) := by unfold wrap64; omega
    have hd : l.drop (pre.length + 1) = s := by rw [h]; simp
    simp only [impl_EndOf.l0, if_pos h1, if_pos (nn _), Int.toNat_natCast, rd_T26, h2, hw, if_pos (show ((pre.length + 1 : Nat) : Int) ≤ (l.length : Int) by omega), hd]
    have hsl : s.length < 1099511627776 := by rw [h] at hl; simp at hl; omega
    refine Ev.bind (impl_EndOf_x0 a.f1 s hsl s [] rfl) ?_
    rw [pEndL]
    have hn : ((pre.length + 1 : Nat) : Int) = ((pre ++ [a]).length : Int) := by simp
    rw [hn]
    refine ev_ite (fun c => ?_) (fun c => ?_)
    · rw [if_pos c]; exact ih (pre ++ [a]) _ h4
    · rw [if_neg c, mx_max]; exact ih (pre ++ [a]) _ h4
theorem impl_EndOf_ev (l : List Cu) (hl : l.length < 1099511627776) (hz : szN l) : Ev (fun k => impl_EndOf.f k l) (pEnd l) := by
  unfold impl_EndOf.f pEnd
  refine Ev.bind (impl_IsScore_ev l hl hz) ?_
  refine ev_ite (fun c => ?_) (fun c => ?_)
  · rw [if_pos c]; exact impl_EndOf_l0 l hl l [] 0 rfl
  · rw [if_neg c]; exact Ev.now _
theorem FnExactEndOf : laws_FnExactEndOf.Pure := by
  intro l hm _ hx
  refine Ev.rounds ?_
  have hz : ∀ x ∈ l, x.f1.size ≤ maxLen := fun x h => (hx x h).2.1
  obtain ⟨r, _, hr, e⟩ := laws_szCueS_ev l 1048576 (by omega) (by omega) hm hz
  unfold laws_FnExactEndOf.f
  refine Ev.bind e ?_
  refine ev_ite (fun _ => Ev.now _) (fun h => ?_)
  have hl := hr (by omega)
  have hl' : (l.map cvC).length < 1099511627776 := by simpa using hl
  refine Ev.bind (laws_toCueS_ev l hl) ?_
  refine Ev.bind (spec_EndOf_ev _ hl' (szN_map hz)) ?_
  refine Ev.bind (laws_toCueS_ev l hl) ?_
  refine Ev.bind (impl_EndOf_ev _ hl' (szN_map hz)) ?_
  simp only [if_true]
  refine Ev.bind (laws_toCueS_ev l hl) ?_
  refine Ev.bind (laws_eqCueS_rfl _ hl') ?_
  exact Ev.now _

end Go.Proofs.Ytamddnjcgnidiaa.Pure
