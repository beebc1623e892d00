/- The law FnExactMergeScores comes to true for every input: The program's MergeScores returns what the reference's returns, for all arguments. No condition beside the statement's own. -/
import Derived.Test.YtkljnmojnkiafaaStFnExactMergeScores
namespace Go.Proofs.Ytkljnmojnkiafaa.Pure
open Go Go.RowKit Go.Proofs.Ytkljnmojnkiafaa.MFnExactMergeScores Go.Proofs.YtkljnmojnkiafaaW.PrintWords Go.Proofs.YtkljnmojnkiafaaW.PrintLast Go.Proofs.YtkljnmojnkiafaaW.PrintMore
set_option linter.unusedVariables false
set_option linter.unusedSimpArgs false

theorem ev_succ {α : Type} {g : Nat → Option α} {r : α} (h : Ev (fun k => g (k + 1)) r) : Ev g r := Ev.step (fun _ => rfl) h
theorem ev_ite {α : Type} {c : Prop} [Decidable c] {f g : Nat → Option α} {r : α} (h : c → Ev f r) (h' : ¬ c → Ev g r) : Ev (fun k => if c then f k else g k) r := by
  by_cases hc : c
  · simp only [if_pos hc]; exact h hc
  · simp only [if_neg hc]; exact h' hc
theorem ix {α : Type} {l pre t : List α} {a : α} (h : l = pre ++ a :: t) (hl : l.length < 4611686018427387904) :
    (pre.length : Int) < (l.length : Int) ∧ (∀ d, l.getD pre.length d = a) ∧ wrap64 ((pre.length : Int) + 1) = ((pre ++ [a]).length : Int) ∧ l = (pre ++ [a]) ++ t := by
  subst h
  simp only [List.length_append, List.length_cons, List.length_nil] at *
  refine ⟨by omega, fun d => by simp [List.getD], by unfold wrap64; omega, by simp⟩
theorem ixn {α : Type} {l pre : List α} (h : l = pre ++ []) : ¬ (pre.length : Int) < (l.length : Int) := by
  subst h; simp
theorem nn (n : Nat) : (0 : Int) ≤ (n : Int) := Int.natCast_nonneg n
theorem w64 {n : Int} (h0 : -9223372036854775808 ≤ n) (h1 : n < 9223372036854775808) : wrap64 n = n := by unfold wrap64; omega
theorem mn_min (a b : Int) : mn a b = min a b := by unfold mn; omega
theorem mx_max (a b : Int) : mx a b = max a b := by unfold mx; omega
theorem set_app {α : Type} (pre t : List α) (a b : α) : (pre ++ a :: t).set pre.length b = pre ++ b :: t := by simp
theorem app1 {α : Type} (pre : List α) (a : α) (t : List α) : pre ++ a :: t = (pre ++ [a]) ++ t := by simp

/-- The numbers from c on, n of them. -/
def upto : Nat → Int → List Int
  | 0, _ => []
  | n + 1, c => c :: upto n (c + 1)
theorem upto_length : ∀ n c, (upto n c).length = n
  | 0, _ => rfl
  | n + 1, c => by simp [upto, upto_length n]

theorem spec_l1In_eq (a b c : Int) : spec_l1In.f a b c = some (decide (b ≤ a) && decide (a ≤ c)) := by
  unfold spec_l1In.f; split <;> simp <;> omega
theorem impl_isWithin_eq (a b c : Int) : impl_isWithin.f a b c = some (decide (b ≤ a) && decide (a ≤ c)) := by
  unfold impl_isWithin.f; split <;> simp <;> omega
theorem ix2 {α : Type} {l pre t : List α} {p a : α} (h : l = (pre ++ [p]) ++ a :: t) (hl : l.length < 4611686018427387904) :
    (((pre ++ [p]).length : Int)) > 0 ∧ wrap64 (((pre ++ [p]).length : Int) - 1) = (pre.length : Int) ∧ (∀ d, l.getD pre.length d = p) ∧ (pre.length : Int) < (l.length : Int) := by
  subst h
  simp only [List.length_append, List.length_cons, List.length_nil] at *
  refine ⟨by omega, by unfold wrap64; omega, fun d => by simp [List.getD], by omega⟩
theorem ev_eq {α : Type} {f g : Nat → Option α} {r : α} (h : f = g) (k : Ev g r) : Ev f r := h ▸ k
def pCmpI (a b : Int) : Int := if a < b then -1 else if a = b then 0 else 1
theorem cmp_Compare_int_eq (a b : Int) : cmp_Compare_int.f a b = some (pCmpI a b) := by
  simp only [cmp_Compare_int.f, cmp_isNaN_int.f, bne_self_eq_false, Option.bind_some, Bool.false_eq_true, if_false, pCmpI]
  repeat' split
  all_goals first | rfl | omega
theorem cmp_Or_int_ev (a b : Int) : Ev (fun k => cmp_Or_int.f k [a, b]) (if a = 0 then b else a) := by
  unfold cmp_Or_int.f
  refine ev_succ ?_
  simp only [cmp_Or_int.l0, List.length_cons, List.length_nil, if_pos (show ((0 : Int) < ((0 + 1 + 1 : Nat) : Int)) by omega), if_pos (show (0 : Int) ≤ 0 by omega), rd, Int.toNat_zero, List.getD_cons_zero]
  refine ev_ite (fun h => ?_) (fun h => ?_)
  · rw [if_pos h, show wrap64 (0 + 1) = 1 by unfold wrap64; omega]
    refine ev_succ ?_
    simp only [cmp_Or_int.l0, List.length_cons, List.length_nil, if_pos (show ((1 : Int) < ((0 + 1 + 1 : Nat) : Int)) by omega), if_pos (show (0 : Int) ≤ 1 by omega), rd, show ((1 : Int).toNat) = 1 from rfl, List.getD_cons_succ, List.getD_cons_zero]
    refine ev_ite (fun h2 => ?_) (fun h2 => Ev.now _)
    rw [show wrap64 (1 + 1) = 2 by unfold wrap64; omega, h2]
    refine ev_succ ?_
    simp only [cmp_Or_int.l0, List.length_cons, List.length_nil, if_neg (show ¬ ((2 : Int) < ((0 + 1 + 1 : Nat) : Int)) by omega)]
    exact Ev.now _
  · rw [if_neg h]; exact Ev.now _
abbrev Cu := S42
abbrev LCu := S38
def nmC (b : Int) (i : Nat) : Bool := (decide (97 ≤ b) && decide (b ≤ 122)) || ((decide (48 ≤ b) && decide (b ≤ 57)) && !decide (i = 0))
def nmR (a : ByteArray) : Nat → Nat → Bool
  | 0, _ => decide (1 ≤ (a.size : Int)) && decide ((a.size : Int) ≤ 8)
  | d + 1, i => nmC (bt a (i : Int)) i && nmR a d (i + 1)
def pName (a : ByteArray) : Bool := nmR a a.size 0
theorem spec_IsName_l0 (a : ByteArray) (ha : a.size ≤ 9223372036854775807) : ∀ (d i : Nat), i + d = a.size → Ev (fun k => spec_IsName.l0 k a (i : Int)) (nmR a d i) := by
  intro d
  induction d with
  | zero =>
    intro i h
    refine ev_succ ?_
    simp only [spec_IsName.l0, if_neg (show ¬ ((i : Int) < (a.size : Int)) by omega), nmR]
    refine ev_ite (fun c => ?_) (fun c => ?_)
    · rw [decide_eq_true (show 1 ≤ (a.size : Int) by omega), Bool.true_and]; exact Ev.now _
    · rw [decide_eq_false (show ¬ 1 ≤ (a.size : Int) by omega), Bool.false_and]; exact Ev.now _
  | succ d ih =>
    intro i h
    have ih' := ih (i + 1) (by omega)
    refine ev_succ ?_
    simp only [spec_IsName.l0, if_pos (show ((i : Int) < (a.size : Int)) by omega), if_pos (nn _), nmR]
    rw [show wrap64 ((i : Int) + 1) = ((i + 1 : Nat) : Int) by unfold wrap64; omega]
    generalize bt a (i : Int) = b
    have hi : ((i : Int) = 0) = (i = 0) := by simp
    simp only [nmC, hi]
    by_cases h1 : 97 ≤ b <;> by_cases h2 : b ≤ 122 <;> by_cases h3 : 48 ≤ b <;> by_cases h4 : b ≤ 57 <;> by_cases h5 : i = 0 <;> first | (exfalso; omega) | skip
    all_goals simp only [ge_iff_le, h1, h2, h3, h4, h5, decide_true, decide_false, Bool.true_and, Bool.false_and, Bool.and_true, Bool.and_false, Bool.or_true, Bool.true_or, Bool.or_false, Bool.false_or, Bool.not_true, Bool.not_false, if_true, if_false]
    all_goals first | exact Ev.now _ | exact ih' | (subst h5; exact ih')
theorem spec_IsName_ev (a : ByteArray) (ha : a.size ≤ 9223372036854775807) : Ev (fun k => spec_IsName.f k a) (pName a) := spec_IsName_l0 a ha a.size 0 (by omega)
theorem impl_IsName_l0 (a : ByteArray) (ha : a.size ≤ 9223372036854775807) : ∀ (d i : Nat), i + d = a.size → Ev (fun k => impl_IsName.l0 k a (a.size : Int) (i : Int)) (nmR a d i) := by
  intro d
  induction d with
  | zero =>
    intro i h
    refine ev_succ ?_
    simp only [impl_IsName.l0, if_neg (show ¬ ((i : Int) < (a.size : Int)) by omega), nmR, impl_isWithin_eq, Option.bind_some]
    exact Ev.now _
  | succ d ih =>
    intro i h
    have ih' := ih (i + 1) (by omega)
    refine ev_succ ?_
    simp only [impl_IsName.l0, if_pos (show ((i : Int) < (a.size : Int)) by omega), if_pos (nn _), nmR]
    rw [show wrap64 ((i : Int) + 1) = ((i + 1 : Nat) : Int) by unfold wrap64; omega]
    generalize bt a (i : Int) = b
    have hi : ((i : Int) = 0) = (i = 0) := by simp
    simp only [nmC, hi, gt_iff_lt, ← Int.not_le]
    by_cases h1 : 97 ≤ b <;> by_cases h2 : b ≤ 122 <;> by_cases h3 : 48 ≤ b <;> by_cases h4 : b ≤ 57 <;> by_cases h5 : i = 0 <;> first | (exfalso; omega) | skip
    all_goals simp only [ge_iff_le, h1, h2, h3, h4, h5, not_true_eq_false, not_false_eq_true, decide_true, decide_false, Bool.true_and, Bool.false_and, Bool.and_true, Bool.and_false, Bool.or_true, Bool.true_or, Bool.or_false, Bool.false_or, Bool.not_true, Bool.not_false, if_true, if_false]
    all_goals first | exact Ev.now _ | exact ih' | (subst h5; exact ih')
theorem impl_IsName_ev (a : ByteArray) (ha : a.size ≤ 9223372036854775807) : Ev (fun k => impl_IsName.f k a) (pName a) := impl_IsName_l0 a ha a.size 0 (by omega)
def pCue (t : Int) (n : ByteArray) (v r : Int) : Bool := (decide (0 ≤ t) && decide (t ≤ 64)) && (pName n && ((decide (0 ≤ v) && decide (v ≤ 32)) && (decide (0 ≤ r) && decide (r ≤ 16))))
theorem spec_IsCue_ev (t : Int) (n : ByteArray) (v r : Int) (hn : n.size ≤ 9223372036854775807) : Ev (fun k => spec_IsCue.f k t n v r) (pCue t n v r) := by
  simp only [spec_IsCue.f, spec_l1In_eq, Option.bind_some, pCue]
  refine ev_ite (fun c => ?_) (fun c => ?_)
  · rw [c, Bool.true_and]
    refine Ev.bind (spec_IsName_ev n hn) ?_
    refine ev_ite (fun c => ?_) (fun c => ?_)
    · rw [c, Bool.true_and]
      refine ev_ite (fun c => ?_) (fun c => ?_)
      · rw [c, Bool.true_and]; exact Ev.now _
      · rw [Bool.eq_false_iff.2 c, Bool.false_and]; exact Ev.now _
    · rw [Bool.eq_false_iff.2 c, Bool.false_and]; exact Ev.now _
  · rw [Bool.eq_false_iff.2 c, Bool.false_and]; exact Ev.now _
theorem impl_IsCue_ev (t : Int) (n : ByteArray) (v r : Int) (hn : n.size ≤ 9223372036854775807) : Ev (fun k => impl_IsCue.f k t n v r) (pCue t n v r) := by
  simp only [impl_IsCue.f, impl_isWithin_eq, Option.bind_some, pCue]
  refine ev_ite (fun c => ?_) (fun c => ?_)
  · rw [c, Bool.true_and]
    refine Ev.bind (impl_IsName_ev n hn) ?_
    refine ev_ite (fun c => ?_) (fun c => ?_)
    · rw [c, Bool.true_and]
      refine ev_ite (fun c => ?_) (fun c => ?_)
      · rw [c, Bool.true_and]; exact Ev.now _
      · rw [Bool.eq_false_iff.2 c, Bool.false_and]; exact Ev.now _
    · rw [Bool.eq_false_iff.2 c, Bool.false_and]; exact Ev.now _
  · rw [Bool.eq_false_iff.2 c, Bool.false_and]; exact Ev.now _
theorem laws_szCue_eq (t : Int) (n : ByteArray) (v r m : Int) (h0 : 0 ≤ m) (h1 : m ≤ 1048576) (hn : n.size ≤ maxLen) : laws_szCue.f t n v r m = some (if m - (n.size : Int) < 0 then -1 else m - (n.size : Int)) := by
  have : (n.size : Int) ≤ 9223372036854775807 := by have : maxLen = 9223372036854775807 := rfl; omega
  unfold laws_szCue.f
  rw [show wrap64 (m - (n.size : Int)) = m - (n.size : Int) by unfold wrap64; omega]
  split <;> rfl
theorem laws_toCue_eq (t : Int) (n : ByteArray) (v r : Int) : laws_toCue.f t n v r = some (t, n, v, r) := rfl
theorem bl_irrefl : ∀ x, Op.bytesLess x x = false
  | [] => rfl
  | a :: x => by
    simp only [Op.bytesLess, bl_irrefl x, Bool.and_false, Bool.or_false, decide_eq_false_iff_not]
    exact UInt8.lt_irrefl a
theorem bl_tri : ∀ x y, Op.bytesLess x y = false → Op.bytesLess y x = false → x = y
  | [], [], _, _ => rfl
  | [], _ :: _, h, _ => by simp [Op.bytesLess] at h
  | _ :: _, [], _, h => by simp [Op.bytesLess] at h
  | a :: x, b :: y, h, h' => by
    simp only [Op.bytesLess, Bool.or_eq_false_iff, decide_eq_false_iff_not] at h h'
    have hab : a = b := by
      have h1 := h.1; have h2 := h'.1
      exact UInt8.le_antisymm (UInt8.not_lt.1 h2) (UInt8.not_lt.1 h1)
    subst hab
    simp only [beq_self_eq_true, Bool.true_and] at h h'
    rw [bl_tri x y h.2 h'.2]
theorem bl_trans : ∀ x y z, Op.bytesLess x y = true → Op.bytesLess y z = true → Op.bytesLess x z = true
  | _, _, [], _, h => by cases ‹List UInt8› <;> simp [Op.bytesLess] at h
  | [], _, _ :: _, _, _ => rfl
  | _ :: _, [], _ :: _, h, _ => by simp [Op.bytesLess] at h
  | a :: x, b :: y, c :: z, h, h' => by
    simp only [Op.bytesLess, Bool.or_eq_true, decide_eq_true_eq, Bool.and_eq_true, beq_iff_eq] at h h' ⊢
    rcases h with h | ⟨h, h2⟩
    · rcases h' with h' | ⟨h', h2'⟩
      · exact .inl (UInt8.lt_trans h h')
      · exact .inl (h' ▸ h)
    · rcases h' with h' | ⟨h', h2'⟩
      · exact .inl (h ▸ h')
      · exact .inr ⟨h.trans h', bl_trans x y z h2 h2'⟩
/-- The order of cues. -/
def pCmpC (a : Int) (b : ByteArray) (c : Int) (d : ByteArray) : Int :=
  if a < c then -1 else if a = c then (if Op.bytesLess b.toList d.toList = true then -1 else if b.toList = d.toList then 0 else 1) else 1
theorem spec_CompareCues_ev (a : Int) (b : ByteArray) (v r c : Int) (d : ByteArray) (v' r' : Int) : Ev (fun k => spec_CompareCues.f k a b v r c d v' r') (pCmpC a b c d) := by
  unfold spec_CompareCues.f pCmpC
  refine ev_ite (fun h => ?_) (fun h => ?_)
  · rw [if_pos h, decide_eq_true h]
    refine ev_succ ?_
    simp only [spec_CompareCues.j0, if_true]; exact Ev.now _
  · rw [if_neg h]
    refine ev_ite (fun h1 => ?_) (fun h1 => ?_)
    · rw [if_pos h1]
      refine ev_succ ?_
      simp only [spec_CompareCues.j0]
      refine ev_ite (fun h2 => ?_) (fun h2 => ?_)
      · rw [if_pos h2]; exact Ev.now _
      · rw [if_neg h2]
        simp only [if_pos h1]
        refine ev_ite (fun h3 => ?_) (fun h3 => ?_)
        · rw [if_pos h3]; exact Ev.now _
        · rw [if_neg h3]; exact Ev.now _
    · rw [if_neg h1]
      refine ev_succ ?_
      simp only [spec_CompareCues.j0, Bool.false_eq_true, if_false, if_neg h1]; exact Ev.now _
def pCmpS (a b : ByteArray) : Int := if Op.bytesLess a.toList b.toList = true then -1 else if a.toList = b.toList then 0 else 1
theorem cmp_Compare_string_eq (a b : ByteArray) : cmp_Compare_string.f a b = some (pCmpS a b) := by
  simp only [cmp_Compare_string.f, cmp_isNaN_string.f, bne_self_eq_false, Option.bind_some, Bool.false_eq_true, if_false, pCmpS]
  split
  · rfl
  · rename_i h
    split
    · rename_i h2
      rw [if_neg]
      intro e
      rw [e, bl_irrefl] at h2
      cases h2
    · rename_i h2
      rw [if_pos (bl_tri _ _ (Bool.eq_false_iff.2 h) (Bool.eq_false_iff.2 h2))]
theorem impl_CompareCues_ev (a : Int) (b : ByteArray) (v r c : Int) (d : ByteArray) (v' r' : Int) : Ev (fun k => impl_CompareCues.f k a b v r c d v' r') (pCmpC a b c d) := by
  simp only [impl_CompareCues.f, cmp_Compare_int_eq, cmp_Compare_string_eq, Option.bind_some]
  have := cmp_Or_int_ev (pCmpI a c) (pCmpS b d)
  have e : (if pCmpI a c = 0 then pCmpS b d else pCmpI a c) = pCmpC a b c d := by
    unfold pCmpI pCmpC pCmpS
    by_cases h1 : a < c
    · simp [h1]
    · by_cases h2 : a = c
      · simp [h2]
      · simp [h1, h2]
  rw [e] at this
  exact Ev.bind this (Ev.now _)
/-- Every name of a list is a string that Go can hold. -/
def szN (l : List Cu) : Prop := ∀ c ∈ l, c.f1.size ≤ 9223372036854775807
def cOk (c : Cu) : Bool := pCue c.f0 c.f1 c.f2 c.f3
def cLt (a b : Cu) : Bool := decide (pCmpC a.f0 a.f1 b.f0 b.f1 < 0)
def sRest : Cu → List Cu → Bool
  | _, [] => true
  | p, q :: t => cOk q && (cLt p q && sRest q t)
def sAll : List Cu → Bool
  | [] => true
  | q :: t => cOk q && sRest q t
/-- IsScore -/
def pScore (l : List Cu) : Bool := sAll l && decide ((l.length : Int) ≤ 12)
theorem pScore_len {l : List Cu} (h : pScore l = true) : l.length ≤ 12 := by
  simp only [pScore, Bool.and_eq_true, decide_eq_true_eq] at h; omega
theorem szN_mid {l pre t : List Cu} {a : Cu} (h : szN l) (e : l = pre ++ a :: t) : a.f1.size ≤ 9223372036854775807 := h a (by simp [e])
theorem sRest_all : ∀ (l : List Cu) (p : Cu), sRest p l = true → ∀ c ∈ l, cOk c = true
  | [], _, _, c, hc => by cases hc
  | q :: t, p, h, c, hc => by
    simp only [sRest, Bool.and_eq_true] at h
    cases hc with
    | head => exact h.1
    | tail _ hc => exact sRest_all t q h.2.2 c hc
theorem sAll_all : ∀ (l : List Cu), sAll l = true → ∀ c ∈ l, cOk c = true
  | [], _, c, hc => by cases hc
  | q :: t, h, c, hc => by
    simp only [sAll, Bool.and_eq_true] at h
    cases hc with
    | head => exact h.1
    | tail _ hc => exact sRest_all t q h.2 c hc
theorem pScore_all {l : List Cu} (h : pScore l = true) : ∀ c ∈ l, cOk c = true := by
  simp only [pScore, Bool.and_eq_true] at h; exact sAll_all l h.1
theorem cLt_iff (a b : Cu) : cLt a b = true ↔ a.f0 < b.f0 ∨ (a.f0 = b.f0 ∧ Op.bytesLess a.f1.toList b.f1.toList = true) := by
  unfold cLt
  rw [decide_eq_true_iff]
  unfold pCmpC
  by_cases h1 : a.f0 < b.f0
  · simp [h1]
  · by_cases h2 : a.f0 = b.f0
    · rw [if_neg h1, if_pos h2]
      by_cases h3 : Op.bytesLess a.f1.toList b.f1.toList = true
      · simp [h2, h3]
      · rw [if_neg h3]
        split <;> simp [h1, h2, h3]
    · simp [h1, h2]
theorem cLt_trans {a b c : Cu} (h : cLt a b = true) (h' : cLt b c = true) : cLt a c = true := by
  rw [cLt_iff] at *
  rcases h with h | ⟨h, h2⟩
  · rcases h' with h' | ⟨h', _⟩ <;> exact .inl (by omega)
  · rcases h' with h' | ⟨h', h2'⟩
    · exact .inl (by omega)
    · exact .inr ⟨by omega, bl_trans _ _ _ h2 h2'⟩
theorem sRest_iff : ∀ (l : List Cu) (p : Cu), sRest p l = true ↔ (∀ c ∈ l, cOk c = true) ∧ (∀ c ∈ l, cLt p c = true) ∧ l.Pairwise (fun a b => cLt a b = true)
  | [], _ => by simp [sRest]
  | q :: t, p => by
    simp only [sRest, Bool.and_eq_true, sRest_iff t q, List.mem_cons, List.pairwise_cons, forall_eq_or_imp]
    constructor
    · rintro ⟨h1, h2, h3, h4, h5⟩
      exact ⟨⟨h1, h3⟩, ⟨h2, fun c hc => cLt_trans h2 (h4 c hc)⟩, h4, h5⟩
    · rintro ⟨⟨h1, h3⟩, ⟨h2, _⟩, h4, h5⟩
      exact ⟨h1, h2, h3, h4, h5⟩
theorem sAll_iff (l : List Cu) : sAll l = true ↔ (∀ c ∈ l, cOk c = true) ∧ l.Pairwise (fun a b => cLt a b = true) := by
  cases l with
  | nil => simp [sAll]
  | cons q t =>
    simp only [sAll, Bool.and_eq_true, sRest_iff, List.mem_cons, List.pairwise_cons, forall_eq_or_imp]
    constructor
    · rintro ⟨h1, h2, h3, h4⟩; exact ⟨⟨h1, h2⟩, h3, h4⟩
    · rintro ⟨⟨h1, h2⟩, h3, h4⟩; exact ⟨h1, h2, h3, h4⟩
theorem pScore_iff (l : List Cu) : pScore l = true ↔ ((∀ c ∈ l, cOk c = true) ∧ l.Pairwise (fun a b => cLt a b = true)) ∧ l.length ≤ 12 := by
  simp only [pScore, Bool.and_eq_true, sAll_iff, decide_eq_true_eq]
  have : ((l.length : Int) ≤ 12) ↔ l.length ≤ 12 := by omega
  rw [this]
theorem pScore_filter {l : List Cu} (h : pScore l = true) (p : Cu → Bool) : pScore (l.filter p) = true := by
  rw [pScore_iff] at *
  exact ⟨⟨fun c hc => h.1.1 c ((List.mem_filter.1 hc).1), h.1.2.sublist List.filter_sublist⟩, Nat.le_trans (List.length_filter_le _ _) h.2⟩
theorem spec_IsScore_l0 (l : List Cu) (hl : l.length < 1099511627776) (hz : szN l) : ∀ (suf pre : List Cu) (p : Cu), l = (pre ++ [p]) ++ suf →
    Ev (fun k => spec_IsScore.l0 k l l (l.length : Int) ((pre ++ [p]).length : Int)) (sRest p suf && decide ((l.length : Int) ≤ 12)) := by
  intro suf
  induction suf with
  | nil =>
    intro pre p h
    refine ev_succ ?_
    simp only [spec_IsScore.l0, if_neg (ixn h), sRest, Bool.true_and]
    exact Ev.now _
  | cons a t ih =>
    intro pre p h
    obtain ⟨h1, h2, h3, h4⟩ := ix h (by omega)
    obtain ⟨h5, h6, h7, h8⟩ := ix2 h (by omega)
    refine ev_succ ?_
    simp only [spec_IsScore.l0, if_pos h1, if_pos (nn _), Int.toNat_natCast, rd_T42, h2, h3, h6, h7, if_pos h5, if_pos h8]
    rw [sRest]
    refine Ev.bind (spec_IsCue_ev _ _ _ _ (szN_mid hz h)) ?_
    change Ev (fun k => if cOk a = true then _ else _) _
    refine ev_ite (fun c1 => ?_) (fun c1 => ?_)
    · rw [c1, Bool.true_and]
      refine Ev.bind (spec_CompareCues_ev _ _ _ _ _ _ _ _) ?_
      rw [cLt]
      refine ev_ite (fun c3 => ?_) (fun c3 => ?_)
      · rw [decide_eq_false (by omega), Bool.false_and, Bool.false_and]; exact Ev.now _
      · rw [decide_eq_true (by omega), Bool.true_and]; exact ih (pre ++ [p]) a h4
    · rw [Bool.eq_false_iff.2 c1, Bool.false_and, Bool.false_and]; exact Ev.now _
theorem spec_IsScore_ev (l : List Cu) (hl : l.length < 1099511627776) (hz : szN l) : Ev (fun k => spec_IsScore.f k l) (pScore l) := by
  unfold spec_IsScore.f pScore
  refine ev_succ ?_
  cases l with
  | nil =>
    simp only [spec_IsScore.l0]
    exact Ev.now _
  | cons a t =>
    obtain ⟨h1, h2, h3, h4⟩ := ix (l := a :: t) (pre := []) rfl (by omega)
    simp only [List.length_nil, Int.natCast_zero] at h1 h2 h3
    simp only [spec_IsScore.l0, if_pos h1, if_pos (show (0 : Int) ≤ 0 by omega), Int.toNat_zero, rd_T42, h2, h3, if_neg (show ¬ ((0 : Int) > 0) by omega)]
    rw [sAll]
    refine Ev.bind (spec_IsCue_ev _ _ _ _ (szN_mid (pre := []) hz rfl)) ?_
    change Ev (fun k => if cOk a = true then _ else _) _
    refine ev_ite (fun c1 => ?_) (fun c1 => ?_)
    · rw [c1, Bool.true_and]
      exact spec_IsScore_l0 (a :: t) hl hz t [] a rfl
    · rw [Bool.eq_false_iff.2 c1, Bool.false_and, Bool.false_and]; exact Ev.now _
theorem impl_IsScore_l0 (l : List Cu) (hl : l.length < 1099511627776) (hz : szN l) : ∀ (suf pre : List Cu) (p : Cu), l = (pre ++ [p]) ++ suf →
    Ev (fun k => impl_IsScore.l0 k l l (l.length : Int) ((pre ++ [p]).length : Int)) (sRest p suf && decide ((l.length : Int) ≤ 12)) := by
  intro suf
  induction suf with
  | nil =>
    intro pre p h
    refine ev_succ ?_
    simp only [impl_IsScore.l0, if_neg (ixn h), sRest, Bool.true_and]
    exact Ev.now _
  | cons a t ih =>
    intro pre p h
    obtain ⟨h1, h2, h3, h4⟩ := ix h (by omega)
    obtain ⟨h5, h6, h7, h8⟩ := ix2 h (by omega)
    refine ev_succ ?_
    simp only [impl_IsScore.l0, if_pos h1, if_pos (nn _), Int.toNat_natCast, rd_T42, h2, h3, h6, h7, if_pos h5, if_pos h8]
    rw [sRest]
    refine Ev.bind (impl_IsCue_ev _ _ _ _ (szN_mid hz h)) ?_
    change Ev (fun k => if cOk a = true then _ else _) _
    refine ev_ite (fun c1 => ?_) (fun c1 => ?_)
    · rw [c1, Bool.true_and]
      refine Ev.bind (impl_CompareCues_ev _ _ _ _ _ _ _ _) ?_
      rw [cLt]
      refine ev_ite (fun c3 => ?_) (fun c3 => ?_)
      · rw [decide_eq_false (by omega), Bool.false_and, Bool.false_and]; exact Ev.now _
      · rw [decide_eq_true (by omega), Bool.true_and]; exact ih (pre ++ [p]) a h4
    · rw [Bool.eq_false_iff.2 c1, Bool.false_and, Bool.false_and]; exact Ev.now _
theorem impl_IsScore_ev (l : List Cu) (hl : l.length < 1099511627776) (hz : szN l) : Ev (fun k => impl_IsScore.f k l) (pScore l) := by
  unfold impl_IsScore.f pScore
  refine ev_succ ?_
  cases l with
  | nil =>
    simp only [impl_IsScore.l0]
    exact Ev.now _
  | cons a t =>
    obtain ⟨h1, h2, h3, h4⟩ := ix (l := a :: t) (pre := []) rfl (by omega)
    simp only [List.length_nil, Int.natCast_zero] at h1 h2 h3
    simp only [impl_IsScore.l0, if_pos h1, if_pos (show (0 : Int) ≤ 0 by omega), Int.toNat_zero, rd_T42, h2, h3, if_neg (show ¬ ((0 : Int) > 0) by omega)]
    rw [sAll]
    refine Ev.bind (impl_IsCue_ev _ _ _ _ (szN_mid (pre := []) hz rfl)) ?_
    change Ev (fun k => if cOk a = true then _ else _) _
    refine ev_ite (fun c1 => ?_) (fun c1 => ?_)
    · rw [c1, Bool.true_and]
      exact impl_IsScore_l0 (a :: t) hl hz t [] a rfl
    · rw [Bool.eq_false_iff.2 c1, Bool.false_and, Bool.false_and]; exact Ev.now _
def cvC (g : LCu) : Cu := ⟨g.f0, g.f1, g.f2, g.f3⟩
theorem laws_toCueS_l0 (l : List LCu) (hl : l.length < 1099511627776) : ∀ (suf pre : List LCu), l = pre ++ suf →
    Ev (fun k => laws_toCueS.l0 k l (pre.map cvC ++ List.replicate suf.length z42) (pre.length : Int)) (l.map cvC) := by
  intro suf
  induction suf with
  | nil =>
    intro pre h
    refine ev_succ ?_
    simp only [laws_toCueS.l0, if_neg (ixn h)]
    simpa [h] using Ev.now (l.map cvC)
  | cons a t ih =>
    intro pre h
    obtain ⟨h1, h2, h3, h4⟩ := ix h (by omega)
    refine ev_succ ?_
    have h5 : (pre.length : Int) < ((pre.map cvC ++ List.replicate (a :: t).length z42).length : Int) := by simp; omega
    simp only [laws_toCueS.l0, if_pos h1, if_pos (nn _), laws_toCue_eq, Option.bind_some, if_pos h5, Int.toNat_natCast, rd_T38, h2, h3]
    have := ih (pre ++ [a]) h4
    have hp : pre.length = (pre.map cvC).length := by simp
    rw [List.length_cons, List.replicate_succ, hp, set_app]
    simpa [cvC] using this
theorem laws_toCueS_ev (l : List LCu) (hl : l.length < 1099511627776) : Ev (fun k => laws_toCueS.f k l) (l.map cvC) := by
  have := laws_toCueS_l0 l hl l [] rfl
  simp only [laws_toCueS.f, if_pos (nn _), Int.toNat_natCast, if_pos (show l.length ≤ 7036874417766 by omega)]
  simpa using this
theorem laws_eqCue_rfl (a : Int) (b : ByteArray) (c d : Int) : laws_eqCue.f a b c d a b c d = some true := by simp [laws_eqCue.f]
theorem laws_eqCueS_l0 (x : List Cu) (hl : x.length < 1099511627776) : ∀ (d i : Nat), i + d = x.length → Ev (fun k => laws_eqCueS.l0 k x x (i : Int)) true := by
  intro d
  induction d with
  | zero =>
    intro i h
    refine ev_succ ?_
    simp only [laws_eqCueS.l0, if_neg (show ¬ ((i : Int) < (x.length : Int)) by omega)]
    exact Ev.now _
  | succ d ih =>
    intro i h
    refine ev_succ ?_
    simp only [laws_eqCueS.l0, if_pos (show ((i : Int) < (x.length : Int)) by omega), if_pos (nn _), laws_eqCue_rfl, Option.bind_some, if_true]
    rw [show wrap64 ((i : Int) + 1) = ((i + 1 : Nat) : Int) by unfold wrap64; omega]
    exact ih (i + 1) (by omega)
theorem laws_eqCueS_rfl (x : List Cu) (hl : x.length < 1099511627776) : Ev (fun k => laws_eqCueS.f k x x) true := by
  simp only [laws_eqCueS.f, if_true]
  exact laws_eqCueS_l0 x hl x.length 0 (by omega)
theorem laws_szCueS_l0 (l : List LCu) (hl : l.length < 1099511627776) (hz : ∀ x ∈ l, x.f1.size ≤ maxLen) : ∀ (suf pre : List LCu) (n : Int), l = pre ++ suf → 0 ≤ n → n ≤ 1048576 →
    ∃ r, r ≤ 1048576 ∧ Ev (fun k => laws_szCueS.l0 k l n (pre.length : Int)) r := by
  intro suf
  induction suf with
  | nil =>
    intro pre n h h0 h1
    refine ⟨n, h1, ev_succ ?_⟩
    simp only [laws_szCueS.l0, if_neg (ixn h)]
    exact Ev.now _
  | cons a t ih =>
    intro pre n h h0 h1
    obtain ⟨g1, g2, g3, g4⟩ := ix h (by omega)
    have ha : a.f1.size ≤ maxLen := hz a (by simp [h])
    by_cases hc : n - (a.f1.size : Int) < 0
    · refine ⟨-1, by omega, ev_succ ?_⟩
      simp only [laws_szCueS.l0, if_pos g1, if_pos (nn _), Int.toNat_natCast, rd_T38, g2, laws_szCue_eq _ _ _ _ n h0 h1 ha, Option.bind_some, if_pos hc, if_pos (show (-1 : Int) < 0 by omega)]
      exact Ev.now _
    · obtain ⟨r, hr, e⟩ := ih (pre ++ [a]) (n - (a.f1.size : Int)) g4 (by omega) (by omega)
      refine ⟨r, hr, ev_succ ?_⟩
      simp only [laws_szCueS.l0, if_pos g1, if_pos (nn _), Int.toNat_natCast, rd_T38, g2, g3, laws_szCue_eq _ _ _ _ n h0 h1 ha, Option.bind_some, if_neg hc]
      exact e
theorem laws_szCueS_ev (l : List LCu) (n : Int) (hn : 0 ≤ n) (hn2 : n ≤ 1048576) (hl : l.length ≤ maxLen) (hz : ∀ x ∈ l, x.f1.size ≤ maxLen) :
    ∃ r, r ≤ 1048576 ∧ (0 ≤ r → l.length < 1099511627776) ∧ Ev (fun k => laws_szCueS.f k l n) r := by
  have hl' : (l.length : Int) ≤ 9223372036854775807 := by have : maxLen = 9223372036854775807 := rfl; omega
  by_cases hc : n - (l.length : Int) < 0
  · refine ⟨-1, by omega, by omega, ?_⟩
    simp only [laws_szCueS.f]
    rw [show wrap64 (n - (l.length : Int)) = n - (l.length : Int) by unfold wrap64; omega]
    simp only [if_pos hc]; exact Ev.now _
  · obtain ⟨r, hr, e⟩ := laws_szCueS_l0 l (by omega) hz l [] (n - (l.length : Int)) rfl (by omega) (by omega)
    refine ⟨r, hr, fun _ => by omega, ?_⟩
    simp only [laws_szCueS.f]
    rw [show wrap64 (n - (l.length : Int)) = n - (l.length : Int) by unfold wrap64; omega]
    simp only [if_neg hc]; exact e
theorem szN_map {l : List LCu} (hz : ∀ x ∈ l, x.f1.size ≤ maxLen) : szN (l.map cvC) := by
  intro c hc
  obtain ⟨x, hx, rfl⟩ := List.mem_map.1 hc
  exact hz x hx
theorem laws_markText_l0 : ∀ (d : Nat) (n : Int) (s : ByteArray), 0 ≤ n → n < 10 ^ d → s.size + d ≤ 1000 → ∃ r, Ev (fun k => laws_markText.l0 k n s) r := by
  intro d
  induction d with
  | zero =>
    intro n s h0 h1 h2
    have : n = 0 := by simp at h1; omega
    subst this
    refine ⟨(⟨#[109]⟩ : ByteArray) ++ s, ev_succ ?_⟩
    simp only [laws_markText.l0, if_neg (show ¬ ((0 : Int) > 0) by omega), if_pos (show 1 + s.size ≤ 9223372036854775807 by omega)]
    exact Ev.now _
  | succ d ih =>
    intro n s h0 h1 h2
    by_cases hn : n > 0
    · have ht : Int.tdiv n 10 = n / 10 := Int.tdiv_eq_ediv_of_nonneg h0
      have hs : ∀ x : Int, (strOfNums [x]).size = 1 := fun x => rfl
      have h3 : n / 10 < 10 ^ d := by
        rw [Int.pow_succ] at h1
        generalize (10 : Int) ^ d = q at *
        omega
      by_cases hb : n / 10 < 9223372036854775808
      · obtain ⟨r, e⟩ := ih (n / 10) (strOfNums [(wrap64 (48 + (Int.tmod n 10))) % 256] ++ s) (by omega) h3 (by rw [ByteArray.size_append, hs]; omega)
        refine ⟨r, ev_succ ?_⟩
        simp only [laws_markText.l0, if_pos hn, Option.bind_some, hs, if_pos (show 1 + s.size ≤ 9223372036854775807 by omega), ht]
        rw [show wrap64 (n / 10) = n / 10 by unfold wrap64; omega]
        exact e
      · obtain ⟨r, e⟩ : ∃ r, Ev (fun k => laws_markText.l0 k (wrap64 (n / 10)) (strOfNums [(wrap64 (48 + (Int.tmod n 10))) % 256] ++ s)) r := by
          have : ¬ (wrap64 (n / 10) > 0 ∧ wrap64 (n / 10) ≥ 10 ^ d) ∨ True := .inr trivial
          clear this
          by_cases hp : wrap64 (n / 10) > 0
          · refine ih _ _ (by omega) ?_ (by rw [ByteArray.size_append, hs]; omega)
            have : wrap64 (n / 10) ≤ n / 10 := by unfold wrap64; omega
            omega
          · refine ⟨(⟨#[109]⟩ : ByteArray) ++ (strOfNums [(wrap64 (48 + (Int.tmod n 10))) % 256] ++ s), ev_succ ?_⟩
            simp only [laws_markText.l0, if_neg hp, ByteArray.size_append, hs, if_pos (show 1 + (1 + s.size) ≤ 9223372036854775807 by omega)]
            exact Ev.now _
        refine ⟨r, ev_succ ?_⟩
        simp only [laws_markText.l0, if_pos hn, Option.bind_some, hs, if_pos (show 1 + s.size ≤ 9223372036854775807 by omega), ht]
        exact e
    · refine ⟨(⟨#[109]⟩ : ByteArray) ++ s, ev_succ ?_⟩
      simp only [laws_markText.l0, if_neg hn, if_pos (show 1 + s.size ≤ 9223372036854775807 by omega)]
      exact Ev.now _
theorem laws_markText_ex (n : Int) (h : n < 1000000000000000000000000000000) : ∃ r, Ev (fun k => laws_markText.f k n) r := by
  by_cases h0 : n ≤ 0
  · refine ⟨(⟨#[109, 48]⟩ : ByteArray), ?_⟩
    simp only [laws_markText.f, if_pos h0]
    exact Ev.now _
  · obtain ⟨r, e⟩ := laws_markText_l0 30 n ⟨#[]⟩ (by omega) (by simpa using h) (by decide)
    refine ⟨r, ?_⟩
    simp only [laws_markText.f, if_neg h0]
    exact e
/-- The mark's text. -/
noncomputable def mtT (n : Int) : ByteArray := @dite _ (∃ r, Ev (fun k => laws_markText.f k n) r) (Classical.propDecidable _) (fun h => Classical.choose h) (fun _ => ByteArray.empty)
theorem mtT_ev (n : Int) (h : n < 4611686018427387904) : Ev (fun k => laws_markText.f k n) (mtT n) := by
  have h' := laws_markText_ex n (by omega)
  rw [mtT, dif_pos h']
  exact Classical.choose_spec h'
noncomputable def cUpto : Nat → Int → List Cu
  | 0, _ => []
  | n + 1, c => ⟨c, mtT (c + 1), c + 2, c + 3⟩ :: cUpto n (c + 4)
theorem cUpto_length : ∀ n c, (cUpto n c).length = n
  | 0, _ => rfl
  | n + 1, c => by simp [cUpto, cUpto_length n]
theorem laws_markCueS_l0 : ∀ (suf pre : List Cu) (c : Int), 0 ≤ c → pre.length + suf.length < 1099511627776 → c + 4 * suf.length < 4611686018427387000 →
    Ev (fun k => laws_markCueS.l0 k (pre ++ suf) c (pre.length : Int)) (c + 4 * suf.length, pre ++ cUpto suf.length c) := by
  intro suf
  induction suf with
  | nil =>
    intro pre c _ _ _
    refine ev_succ ?_
    simp only [laws_markCueS.l0, if_neg (ixn (pre := pre) rfl)]
    simpa [cUpto] using Ev.now (c, pre)
  | cons a t ih =>
    intro pre c h0 hl hm
    simp only [List.length_cons] at hl hm
    obtain ⟨h1, h2, h3, h4⟩ := ix (l := pre ++ a :: t) rfl (by simp; omega)
    refine ev_succ ?_
    have hg : ∀ (b d : Cu), (pre ++ b :: t).getD pre.length d = b := fun b d => by simp [List.getD]
    simp only [laws_markCueS.l0, if_pos h1, if_pos (nn _), Int.toNat_natCast, set_app, Option.bind_some, rd_T42, hg]
    rw [show wrap64 (c + 1) = c + 1 by unfold wrap64; omega, show wrap64 (c + 1 + 1) = c + 2 by unfold wrap64; omega, show wrap64 (c + 2 + 1) = c + 3 by unfold wrap64; omega, show wrap64 (c + 3 + 1) = c + 4 by unfold wrap64; omega]
    refine Ev.bind (mtT_ev (c + 1) (by omega)) ?_
    rw [show wrap64 ((pre.length : Int) + 1) = ((pre ++ [(⟨c, mtT (c + 1), c + 2, c + 3⟩ : Cu)]).length : Int) by simp; unfold wrap64; omega, app1]
    have := ih (pre ++ [⟨c, mtT (c + 1), c + 2, c + 3⟩]) (c + 4) (by omega) (by simp; omega) (by omega)
    simp only [List.length_cons, cUpto, List.append_assoc, List.singleton_append] at this ⊢
    rwa [show c + 4 * ((t.length + 1 : Nat) : Int) = c + 4 + 4 * t.length by omega]
theorem laws_markCueS_ev (l : List Cu) (c : Int) (hl : l.length < 1099511627776) (h0 : 0 ≤ c) (h1 : c < 4611686018427) : Ev (fun k => laws_markCueS.f k l c) (c + 4 * l.length, cUpto l.length c) := by
  have := laws_markCueS_l0 l [] c h0 (by simp; omega) (by omega)
  simpa [laws_markCueS.f] using this
theorem laws_heldCueS_l0 : ∀ (n : Nat) (pre : List Cu) (c : Int), 0 ≤ c → pre.length + n < 1099511627776 → c + 4 * n < 4611686018427387000 →
    Ev (fun k => laws_heldCueS.l0 k (pre ++ cUpto n c) c (pre.length : Int)) (c + 4 * n) := by
  intro n
  induction n with
  | zero =>
    intro pre c _ _ _
    refine ev_succ ?_
    simp only [laws_heldCueS.l0, cUpto, List.append_nil, if_neg (show ¬ ((pre.length : Int) < (pre.length : Int)) by omega)]
    simpa using Ev.now c
  | succ n ih =>
    intro pre c h0 hl hm
    obtain ⟨h1, h2, h3, h4⟩ := ix (l := pre ++ ⟨c, mtT (c + 1), c + 2, c + 3⟩ :: cUpto n (c + 4)) rfl (by simp [cUpto_length]; omega)
    refine ev_succ ?_
    simp only [laws_heldCueS.l0, cUpto, if_pos h1, if_pos (nn _), Int.toNat_natCast, rd_T42, h2, h3, if_true]
    rw [show wrap64 (c + 1) = c + 1 by unfold wrap64; omega, show wrap64 (c + 1 + 1) = c + 2 by unfold wrap64; omega, show wrap64 (c + 2 + 1) = c + 3 by unfold wrap64; omega, show wrap64 (c + 3 + 1) = c + 4 by unfold wrap64; omega, app1]
    refine Ev.bind (mtT_ev (c + 1) (by omega)) ?_
    simp only [if_true]
    have := ih (pre ++ [⟨c, mtT (c + 1), c + 2, c + 3⟩]) (c + 4) (by omega) (by simp; omega) (by omega)
    rwa [show c + 4 * ((n + 1 : Nat) : Int) = c + 4 + 4 * n by omega]
theorem laws_heldCueS_ev (n : Nat) (hl : n < 1099511627776) : Ev (fun k => laws_heldCueS.f k (cUpto n 1) 1) (1 + 4 * n) := by
  have := laws_heldCueS_l0 n [] 1 (by omega) (by simp; omega) (by omega)
  simpa [laws_heldCueS.f] using this
theorem spec_l7Copies_eq (l : List Cu) (hl : l.length < 1099511627776) : spec_l7Copies.f l = some l := by
  simp only [spec_l7Copies.f, Option.bind_some, List.length_nil, if_pos (show 0 + l.length < 3518437208883 by omega), List.nil_append]
def cCmp (a b : Cu) : Int := pCmpC a.f0 a.f1 b.f0 b.f1
theorem cCmp_cases (a b : Cu) : (cCmp a b < 0 ∧ cLt a b = true) ∨ (cCmp a b = 0 ∧ a.f0 = b.f0 ∧ a.f1.toList = b.f1.toList) ∨ (cCmp a b > 0 ∧ cLt b a = true) := by
  by_cases h : cLt a b = true
  · left; exact ⟨by simpa [cLt, cCmp] using h, h⟩
  · right
    have h' := h
    rw [cLt_iff] at h'
    unfold cCmp pCmpC
    rw [if_neg (fun c => h' (.inl c))]
    by_cases h2 : a.f0 = b.f0
    · rw [if_pos h2, if_neg (fun c => h' (.inr ⟨h2, c⟩))]
      by_cases h3 : a.f1.toList = b.f1.toList
      · left; rw [if_pos h3]; exact ⟨rfl, h2, h3⟩
      · right; rw [if_neg h3]
        refine ⟨by omega, ?_⟩
        rw [cLt_iff]
        refine .inr ⟨h2.symm, ?_⟩
        cases hb : Op.bytesLess b.f1.toList a.f1.toList
        · exact absurd (bl_tri _ _ (Bool.eq_false_iff.2 (fun c => h' (.inr ⟨h2, c⟩))) hb) h3
        · rfl
    · right; rw [if_neg h2]
      refine ⟨by omega, ?_⟩
      rw [cLt_iff]
      exact .inl (by have : ¬ a.f0 < b.f0 := fun c => h' (.inl c)
                     omega)
/-- Where a cue goes. -/
def putTail (c : Cu) : List Cu → Option (List Cu)
  | [] => some [c]
  | d :: t => if cCmp d c < 0 then (putTail c t).map (d :: ·) else if cCmp d c = 0 then none else some (c :: d :: t)
def pPut (l : List Cu) (c : Cu) : List Cu × Bool := match putTail c l with
  | none => (l, false)
  | some r => (r, true)
/-- AddCue -/
def pAdd (l : List Cu) (c : Cu) : List Cu × Bool := if (pScore l && cOk c) = true then (if (pPut l c).2 = true then (if (l.length : Int) = 12 then (l, false) else ((pPut l c).1, true)) else (l, false)) else (l, false)
theorem putTail_mem (c : Cu) : ∀ (l r : List Cu), putTail c l = some r → ∀ x ∈ r, x = c ∨ x ∈ l
  | [], r, h, x, hx => by cases h; simp at hx; exact .inl hx
  | d :: t, r, h, x, hx => by
    unfold putTail at h
    split at h
    · cases ht : putTail c t with
      | none => rw [ht] at h; cases h
      | some r' =>
        rw [ht] at h; cases h
        cases hx with
        | head => exact .inr (by simp)
        | tail _ hx => rcases putTail_mem c t r' ht x hx with h | h
                       · exact .inl h
                       · exact .inr (by simp [h])
    · split at h
      · cases h
      · cases h; simp at hx; rcases hx with h | h | h
        · exact .inl h
        · exact .inr (by simp [h])
        · exact .inr (by simp [h])
theorem putTail_length (c : Cu) : ∀ (l r : List Cu), putTail c l = some r → r.length = l.length + 1
  | [], r, h => by cases h; rfl
  | d :: t, r, h => by
    unfold putTail at h
    split at h
    · cases ht : putTail c t with
      | none => rw [ht] at h; cases h
      | some r' => rw [ht] at h; cases h; simp [putTail_length c t r' ht]
    · split at h
      · cases h
      · cases h; simp
theorem putTail_sorted (c : Cu) : ∀ (l r : List Cu), putTail c l = some r → l.Pairwise (fun a b => cLt a b = true) → r.Pairwise (fun a b => cLt a b = true)
  | [], r, h, _ => by cases h; simp
  | d :: t, r, h, hp => by
    rw [List.pairwise_cons] at hp
    unfold putTail at h
    split at h
    · rename_i hc
      cases ht : putTail c t with
      | none => rw [ht] at h; cases h
      | some r' =>
        rw [ht] at h; cases h
        rw [List.pairwise_cons]
        refine ⟨fun x hx => ?_, putTail_sorted c t r' ht hp.2⟩
        rcases putTail_mem c t r' ht x hx with h | h
        · rw [h]; rcases cCmp_cases d c with h | h | h
          · exact h.2
          · omega
          · omega
        · exact hp.1 x h
    · rename_i hc
      split at h
      · cases h
      · rename_i hc2
        cases h
        have hcd : cLt c d = true := by
          rcases cCmp_cases d c with h | h | h
          · omega
          · omega
          · exact h.2
        rw [List.pairwise_cons, List.pairwise_cons]
        refine ⟨fun x hx => ?_, hp⟩
        cases hx with
        | head => exact hcd
        | tail _ hx => exact cLt_trans hcd (hp.1 x hx)
theorem pAdd_score {l : List Cu} (h : pScore l = true) (c : Cu) : pScore (pAdd l c).1 = true := by
  unfold pAdd
  split
  · rename_i h1
    simp only [Bool.and_eq_true] at h1
    split
    · rename_i h2
      split
      · exact h
      · rename_i h3
        unfold pPut at h2 ⊢
        cases hp : putTail c l with
        | none => rw [hp] at h2; cases h2
        | some r =>
          simp only
          rw [pScore_iff] at h ⊢
          refine ⟨⟨fun x hx => ?_, putTail_sorted c l r hp h.1.2⟩, ?_⟩
          · rcases putTail_mem c l r hp x hx with e | e
            · rw [e]; exact h1.2
            · exact h.1.1 x e
          · rw [putTail_length c l r hp]; have := h.2; omega
    · exact h
  · exact h
theorem pPut_mem {l : List Cu} {c x : Cu} (hx : x ∈ (pPut l c).1) : x = c ∨ x ∈ l := by
  unfold pPut at hx
  cases hp : putTail c l with
  | none => rw [hp] at hx; exact .inr hx
  | some r => rw [hp] at hx; exact putTail_mem c l r hp x hx
theorem pAdd_mem {l : List Cu} {c x : Cu} (hx : x ∈ (pAdd l c).1) : x = c ∨ x ∈ l := by
  unfold pAdd at hx
  split at hx
  · split at hx
    · split at hx
      · exact .inr hx
      · exact pPut_mem hx
    · exact .inr hx
  · exact .inr hx
theorem spec_l7Put_j2 (pre suf : List Cu) (b : Bool) (c : Cu) (hl : (pre ++ suf).length < 1099511627776) :
    Ev (fun k => spec_l7Put.j2 k (pre ++ suf) (pre.length : Int) b c.f0 c.f1 c.f2 c.f3) (if b = true then (pre ++ suf, false) else (pre ++ c :: suf, true)) := by
  refine ev_succ ?_
  have hl2 := hl
  rw [List.length_append] at hl2
  cases b
  · simp only [spec_l7Put.j2, Bool.false_eq_true, if_false, if_pos (nn _), if_pos (show (pre.length : Int) ≤ ((pre.length + suf.length : Nat) : Int) by omega), Int.toNat_natCast, List.take_left, List.drop_left, spec_l7Copies_eq pre (by omega), Option.bind_some, List.length_cons, List.length_nil, List.length_append, if_pos (show pre.length + (0 + 1) < 3518437208883 by omega), if_pos (show pre.length + (0 + 1) + suf.length < 3518437208883 by omega)]
    simpa using Ev.now (pre ++ c :: suf, true)
  · simp only [spec_l7Put.j2, if_true, spec_l7Copies_eq _ hl, Option.bind_some]
    exact Ev.now _
theorem spec_l7Put_l0 (c : Cu) : ∀ (suf pre : List Cu), (pre ++ suf).length < 1099511627776 →
    Ev (fun k => spec_l7Put.l0 k (pre ++ suf) (pre.length : Int) c.f0 c.f1 c.f2 c.f3) (match putTail c suf with | none => (pre ++ suf, false) | some r => (pre ++ r, true)) := by
  intro suf
  induction suf with
  | nil =>
    intro pre hl
    refine ev_succ ?_
    simp only [spec_l7Put.l0, if_neg (ixn (l := pre ++ []) (pre := pre) rfl), putTail]
    refine ev_succ ?_
    simp only [spec_l7Put.j1, if_neg (ixn (l := pre ++ []) (pre := pre) rfl)]
    have := spec_l7Put_j2 pre [] false c hl
    simpa using this
  | cons a t ih =>
    intro pre hl
    obtain ⟨h1, h2, h3, h4⟩ := ix (l := pre ++ a :: t) rfl (by omega)
    refine ev_succ ?_
    simp only [spec_l7Put.l0, if_pos h1, if_pos (nn _), Int.toNat_natCast, rd_T42, h2, h3]
    refine Ev.bind (spec_CompareCues_ev _ _ _ _ _ _ _ _) ?_
    change Ev (fun k => if cCmp a c < 0 then _ else _) _
    rw [putTail]
    refine ev_ite (fun d => ?_) (fun d => ?_)
    · rw [if_pos d]
      have := ih (pre ++ [a]) (by simpa using hl)
      rw [← app1] at this
      cases hp : putTail c t with
      | none => rw [hp] at this; exact this
      | some r => rw [hp] at this; simpa using this
    · rw [if_neg d]
      refine ev_succ ?_
      simp only [spec_l7Put.j1, if_pos h1, if_pos (nn _), Int.toNat_natCast, rd_T42, h2, h3]
      refine Ev.bind (spec_CompareCues_ev _ _ _ _ _ _ _ _) ?_
      change Ev (fun k => spec_l7Put.j2 k (pre ++ a :: t) (pre.length : Int) (cCmp a c == 0) c.f0 c.f1 c.f2 c.f3) _
      have := spec_l7Put_j2 pre (a :: t) (cCmp a c == 0) c hl
      by_cases e : cCmp a c = 0
      · rw [if_pos e]; rw [if_pos (by simpa using e)] at this; exact this
      · rw [if_neg e]; rw [if_neg (by simpa using e)] at this; exact this
theorem spec_l7Put_ev (l : List Cu) (c : Cu) (hl : l.length < 1099511627776) : Ev (fun k => spec_l7Put.f k l c.f0 c.f1 c.f2 c.f3) (pPut l c) := by
  have := spec_l7Put_l0 c l [] (by simpa using hl)
  unfold pPut
  cases hp : putTail c l with
  | none => rw [hp] at this; exact this
  | some r => rw [hp] at this; exact this
/-- Two cues that are not at one tick with one name. -/
def kne (a b : Cu) : Prop := ¬ (a.f0 = b.f0 ∧ a.f1.toList = b.f1.toList)
theorem kne_symm {a b : Cu} (h : kne a b) : kne b a := fun e => h ⟨e.1.symm, e.2.symm⟩
def strict (l : List Cu) : Prop := l.Pairwise (fun a b => cLt a b = true)
theorem cLt_kne {a b : Cu} (h : cLt a b = true) : kne a b := by
  rintro ⟨h1, h2⟩
  rcases (cLt_iff a b).1 h with k | ⟨_, k⟩
  · omega
  · rw [h2, bl_irrefl] at k; cases k
theorem cLt_asym {a b : Cu} (h : cLt a b = true) : ¬ cLt b a = true := fun h' => by
  have := cLt_kne (cLt_trans h h')
  exact this ⟨rfl, rfl⟩
theorem cLt_total {a b : Cu} (h : ¬ cLt b a = true) (k : kne a b) : cLt a b = true := by
  rw [cLt_iff] at *
  by_cases h1 : a.f0 < b.f0
  · exact .inl h1
  · by_cases h2 : b.f0 < a.f0
    · exact absurd (.inl h2) h
    · have e : a.f0 = b.f0 := by omega
      refine .inr ⟨e, ?_⟩
      cases hb : Op.bytesLess a.f1.toList b.f1.toList
      · cases hc : Op.bytesLess b.f1.toList a.f1.toList
        · exact absurd ⟨e, bl_tri _ _ hb hc⟩ k
        · exact absurd (.inr ⟨e.symm, hc⟩) h
      · rfl
theorem strict_kne {l : List Cu} (h : strict l) : l.Pairwise kne := h.imp (fun hab => cLt_kne hab)
/-- One strict order of the same cues. -/
theorem strict_uniq : ∀ (l m : List Cu), strict l → strict m → l.Perm m → l = m
  | [], m, _, _, h => (List.nil_perm.1 h).symm
  | a :: t, [], _, _, h => by simpa using h.length_eq
  | a :: t, b :: s, hl, hm, h => by
    obtain ⟨l1, l2⟩ := List.pairwise_cons.1 hl
    obtain ⟨m1, m2⟩ := List.pairwise_cons.1 hm
    have e : a = b := by
      have ha : a ∈ b :: s := h.subset (by simp)
      have hb : b ∈ a :: t := h.symm.subset (by simp)
      rcases List.mem_cons.1 ha with e | ha
      · exact e
      · rcases List.mem_cons.1 hb with e | hb
        · exact e.symm
        · exact absurd (m1 a ha) (cLt_asym (l1 b hb))
    subst e
    rw [strict_uniq t s l2 m2 (List.Perm.cons_inv h)]
theorem putTail_perm (c : Cu) : ∀ (l r : List Cu), putTail c l = some r → r.Perm (c :: l)
  | [], r, h => by cases h; exact List.Perm.refl _
  | d :: t, r, h => by
    unfold putTail at h
    split at h
    · cases ht : putTail c t with
      | none => rw [ht] at h; cases h
      | some r' => rw [ht] at h; cases h; exact (List.Perm.cons d (putTail_perm c t r' ht)).trans (List.Perm.swap c d t)
    · split at h
      · cases h
      · cases h; exact List.Perm.refl _
theorem putTail_fails (c : Cu) : ∀ (l : List Cu), putTail c l = none → ∃ d ∈ l, ¬ kne d c
  | [], h => by cases h
  | d :: t, h => by
    unfold putTail at h
    rcases cCmp_cases d c with ⟨k, _⟩ | ⟨k, k1, k2⟩ | ⟨k, _⟩
    · rw [if_pos k] at h
      have ht : putTail c t = none := by
        cases ht : putTail c t with
        | none => rfl
        | some r => rw [ht] at h; cases h
      obtain ⟨x, hx, e⟩ := putTail_fails c t ht
      exact ⟨x, by simp [hx], e⟩
    · exact ⟨d, by simp, fun n => n ⟨k1, k2⟩⟩
    · rw [if_neg (by omega), if_neg (by omega)] at h; cases h
theorem sortRow_perm (l : List Cu) : (sortRow l).Perm l := by
  have h := (sortRow_sorts l).1.2.2
  have e1 : (sortRow l).toArray.extract 0 l.toArray.size = (sortRow l).toArray := by
    have hh : l.toArray.size = (sortRow l).toArray.size := by simp [sortRow_len]
    rw [hh]; exact Array.extract_size
  have e2 : l.toArray.extract 0 l.toArray.size = l.toArray := Array.extract_size
  rw [e1, e2] at h
  exact h
theorem sortRow_weak (l : List Cu) : (sortRow l).Pairwise (fun a b => ¬ cLt b a = true) := by
  have h := (sortRow_sorts l).2
  rw [List.pairwise_iff_getElem]
  intro i j hi hj hij
  have hn := sortRow_len l
  have := h i j (Nat.zero_le _) hij (by rw [List.size_toArray]; omega)
  rw [getElem!_pos (sortRow l).toArray j (by rw [List.size_toArray]; exact hj), getElem!_pos (sortRow l).toArray i (by rw [List.size_toArray]; exact hi), List.getElem_toArray, List.getElem_toArray] at this
  intro k
  rw [cLt_iff] at k
  have := Bool.eq_false_iff.1 this
  exact this ((cfC_lt _ _).2 k)
theorem sortRow_strict {l : List Cu} (h : l.Pairwise kne) : strict (sortRow l) := by
  have h2 : (sortRow l).Pairwise kne := (List.Perm.pairwise_iff (fun hab => kne_symm hab) (sortRow_perm l)).2 h
  exact (sortRow_weak l).imp₂ (fun a b hw hk => cLt_total hw hk) h2
/-- MergeScores -/
def pMerge (a b : List Cu) : List Cu × Bool := if pScore a = true then (if pScore b = true then (if pScore (sortRow (a ++ b)) = true then (sortRow (a ++ b), true) else ([], false)) else ([], false)) else ([], false)
theorem pMerge_len (a b : List Cu) : (pMerge a b).1.length ≤ 12 := by
  unfold pMerge
  split
  · split
    · split
      · rename_i h; exact pScore_len h
      · simp
    · simp
  · simp
theorem impl_MergeScores_ev (a b : List Cu) (hl : a.length + b.length ≤ 4000000) (hza : szN a) (hzb : szN b) : Ev (fun k => impl_MergeScores.f k a b) (pMerge a b) := by
  simp only [impl_MergeScores.f, if_pos hl, pMerge]
  have hzs : szN (sortRow (a ++ b)) := fun c hc => by
    rcases List.mem_append.1 ((sortRow_perm (a ++ b)).subset hc) with h | h
    · exact hza c h
    · exact hzb c h
  refine Ev.bind (impl_IsScore_ev a (by omega) hza) ?_
  refine ev_ite (fun c => ?_) (fun c => ?_)
  · rw [if_pos c]
    refine Ev.bind (impl_IsScore_ev b (by omega) hzb) ?_
    refine ev_ite (fun c2 => ?_) (fun c2 => ?_)
    · rw [if_pos c2]
      refine Ev.bind (impl_IsScore_ev _ (by rw [sortRow_len, List.length_append]; omega) hzs) ?_
      refine ev_ite (fun c3 => ?_) (fun c3 => ?_)
      · rw [if_pos c3]; exact Ev.now _
      · rw [if_neg c3]; exact Ev.now _
    · rw [if_neg c2]; exact Ev.now _
  · rw [if_neg c]; exact Ev.now _
theorem spec_MergeScores_l0 (b : List Cu) (hb : b.length < 1000000) : ∀ (suf pre out : List Cu), b = pre ++ suf → out.length ≤ 12 + pre.length → strict out →
    ∃ q, Ev (fun k => spec_MergeScores.l0 k out b (b.length : Int) (pre.length : Int)) q ∧ ((q.2 = true ∧ strict q.1 ∧ q.1.Perm (out ++ suf)) ∨ (q = ([], false) ∧ ¬ (out ++ suf).Pairwise kne)) := by
  intro suf
  induction suf with
  | nil =>
    intro pre out h ho hs
    refine ⟨(out, true), ev_succ ?_, .inl ⟨rfl, hs, by simp⟩⟩
    simp only [spec_MergeScores.l0, if_neg (ixn h)]
    exact Ev.now _
  | cons c s ih =>
    intro pre out h ho hs
    have hpl : pre.length ≤ b.length := by rw [h]; simp
    obtain ⟨h1, h2, h3, h4⟩ := ix h (by omega)
    have hput := spec_l7Put_ev out c (by omega)
    cases hp : putTail c out with
    | none =>
      have e : pPut out c = (out, false) := by unfold pPut; rw [hp]
      rw [e] at hput
      refine ⟨([], false), ev_succ ?_, .inr ⟨rfl, fun hk => ?_⟩⟩
      · simp only [spec_MergeScores.l0, if_pos h1, if_pos (nn _), Int.toNat_natCast, rd_T42, h2]
        refine Ev.bind hput ?_
        simp only [Bool.false_eq_true, if_false]
        exact Ev.now _
      · obtain ⟨d, hd, e⟩ := putTail_fails c out hp
        exact e ((List.pairwise_append.1 hk).2.2 d hd c (by simp))
    | some r =>
      have e : pPut out c = (r, true) := by unfold pPut; rw [hp]
      rw [e] at hput
      have hrl := putTail_length c out r hp
      have hperm := putTail_perm c out r hp
      obtain ⟨q, eq, hq⟩ := ih (pre ++ [c]) r h4 (by rw [hrl]; simp; omega) (putTail_sorted c out r hp hs)
      have hall : (r ++ s).Perm (out ++ c :: s) := (List.Perm.append_right s hperm).trans List.perm_middle.symm
      refine ⟨q, ev_succ ?_, ?_⟩
      · simp only [spec_MergeScores.l0, if_pos h1, if_pos (nn _), Int.toNat_natCast, rd_T42, h2, h3]
        refine Ev.bind hput ?_
        simp only [if_true]
        exact eq
      · rcases hq with ⟨q1, q2, q3⟩ | ⟨q1, q2⟩
        · exact .inl ⟨q1, q2, q3.trans hall⟩
        · exact .inr ⟨q1, fun hk => q2 ((List.Perm.pairwise_iff (fun hab => kne_symm hab) hall).2 hk)⟩
theorem spec_MergeScores_ev (a b : List Cu) (hl : a.length + b.length ≤ 4000000) (hza : szN a) (hzb : szN b) : Ev (fun k => spec_MergeScores.f k a b) (pMerge a b) := by
  have j1 : Ev (fun k => spec_MergeScores.j0 k a b true) ([], false) := by
    refine ev_succ ?_
    simp only [spec_MergeScores.j0, if_true]; exact Ev.now _
  unfold spec_MergeScores.f pMerge
  refine Ev.bind (spec_IsScore_ev a (by omega) hza) ?_
  refine ev_ite (fun c => ?_) (fun c => ?_)
  · rw [if_pos c]
    refine Ev.bind (spec_IsScore_ev b (by omega) hzb) ?_
    refine ev_ite (fun c2 => ?_) (fun c2 => ?_)
    · rw [if_pos c2]
      have hw : wrap64 ((a.length : Int) + (b.length : Int)) = ((a.length + b.length : Nat) : Int) := by unfold wrap64; omega
      rw [hw]
      obtain ⟨⟨a1, a2⟩, a3⟩ := (pScore_iff a).1 c
      obtain ⟨⟨b1, b2⟩, b3⟩ := (pScore_iff b).1 c2
      have hperm := sortRow_perm (a ++ b)
      by_cases h12 : a.length + b.length ≤ 12
      · rw [decide_eq_false (by omega)]
        obtain ⟨q, eq, hq⟩ := spec_MergeScores_l0 b (by omega) b [] a rfl (by simp; omega) a2
        have main : q = (if pScore (sortRow (a ++ b)) = true then (sortRow (a ++ b), true) else ([], false)) := by
          rcases hq with ⟨q1, q2, q3⟩ | ⟨q1, q2⟩
          · have hk : (a ++ b).Pairwise kne := (List.Perm.pairwise_iff (fun hab => kne_symm hab) q3).1 (strict_kne q2)
            have e : sortRow (a ++ b) = q.1 := strict_uniq _ _ (sortRow_strict hk) q2 (hperm.trans q3.symm)
            have hp : pScore (sortRow (a ++ b)) = true := by
              rw [pScore_iff]
              refine ⟨⟨fun x hx => ?_, sortRow_strict hk⟩, by rw [sortRow_len, List.length_append]; omega⟩
              rcases List.mem_append.1 (hperm.subset hx) with h | h
              · exact a1 x h
              · exact b1 x h
            rw [if_pos hp, e, ← q1]
          · have hp : ¬ pScore (sortRow (a ++ b)) = true := fun hp => q2 ((List.Perm.pairwise_iff (fun hab => kne_symm hab) hperm).1 (strict_kne ((pScore_iff _).1 hp).1.2))
            rw [if_neg hp]; exact q1
        rw [← main]
        refine ev_succ ?_
        simp only [spec_MergeScores.j0, Bool.false_eq_true, if_false, spec_l7Copies_eq a (by omega), Option.bind_some]
        exact eq
      · rw [decide_eq_true (by omega)]
        have hp : ¬ pScore (sortRow (a ++ b)) = true := fun hp => by
          have := pScore_len hp
          rw [sortRow_len, List.length_append] at this; omega
        rw [if_neg hp]; exact j1
    · rw [if_neg c2]; exact j1
  · rw [if_neg c]; exact j1
theorem laws_szCueS_ev2 (l : List LCu) (n : Int) (hn : 0 ≤ n) (hn2 : n ≤ 1048576) (hl : l.length ≤ maxLen) (hz : ∀ x ∈ l, x.f1.size ≤ maxLen) :
    ∃ r, r ≤ 1048576 ∧ (0 ≤ r → l.length ≤ 1048576) ∧ Ev (fun k => laws_szCueS.f k l n) r := by
  by_cases hc : l.length ≤ 1048576
  · obtain ⟨r, h1, _, h3⟩ := laws_szCueS_ev l n hn hn2 hl hz
    exact ⟨r, h1, fun _ => hc, h3⟩
  · have hl' : (l.length : Int) ≤ 9223372036854775807 := by have : maxLen = 9223372036854775807 := rfl; omega
    refine ⟨-1, by omega, by omega, ?_⟩
    simp only [laws_szCueS.f]
    rw [show wrap64 (n - (l.length : Int)) = n - (l.length : Int) by unfold wrap64; omega]
    simp only [if_pos (show n - (l.length : Int) < 0 by omega)]; exact Ev.now _
theorem FnExactMergeScores : laws_FnExactMergeScores.Pure := by
  intro l m hm1 _ hx1 hm2 _ hx2
  refine Ev.rounds ?_
  have hz1 : ∀ x ∈ l, x.f1.size ≤ maxLen := fun x h => (hx1 x h).2.1
  have hz2 : ∀ x ∈ m, x.f1.size ≤ maxLen := fun x h => (hx2 x h).2.1
  obtain ⟨r, hrm, hr, e⟩ := laws_szCueS_ev2 l 1048576 (by omega) (by omega) hm1 hz1
  unfold laws_FnExactMergeScores.f
  refine Ev.bind e ?_
  refine ev_ite (fun _ => Ev.now _) (fun h => ?_)
  have hl0 := hr (by omega)
  obtain ⟨r2, hrm2, hr2, e2⟩ := laws_szCueS_ev2 m r (by omega) hrm hm2 hz2
  refine Ev.bind e2 ?_
  refine ev_ite (fun _ => Ev.now _) (fun h2 => ?_)
  have hm0 := hr2 (by omega)
  have hl : l.length < 1099511627776 := by omega
  have hm : m.length < 1099511627776 := by omega
  have hl' : (l.map cvC).length < 1099511627776 := by simpa using hl
  have hm' : (m.map cvC).length < 1099511627776 := by simpa using hm
  have hsum : (l.map cvC).length + (m.map cvC).length ≤ 4000000 := by simp only [List.length_map]; omega
  have hs := spec_MergeScores_ev (l.map cvC) (m.map cvC) hsum (szN_map hz1) (szN_map hz2)
  have hi := impl_MergeScores_ev (l.map cvC) (m.map cvC) hsum (szN_map hz1) (szN_map hz2)
  have hq := pMerge_len (l.map cvC) (m.map cvC)
  generalize pMerge (l.map cvC) (m.map cvC) = q at hs hi hq
  have hq' : q.1.length < 1099511627776 := by omega
  refine Ev.bind (laws_toCueS_ev l hl) ?_
  refine Ev.bind (laws_toCueS_ev m hm) ?_
  refine Ev.bind hs ?_
  refine Ev.bind (laws_toCueS_ev l hl) ?_
  refine Ev.bind (laws_toCueS_ev m hm) ?_
  refine Ev.bind hi ?_
  refine Ev.bind (laws_eqCueS_rfl q.1 hq') ?_
  simp only [if_true, bne_self_eq_false]
  refine ev_succ ?_
  simp only [laws_FnExactMergeScores.j0, Bool.false_eq_true, if_false]
  refine Ev.bind (laws_toCueS_ev l hl) ?_
  refine Ev.bind (laws_eqCueS_rfl _ hl') ?_
  simp only [if_true]
  refine Ev.bind (laws_toCueS_ev m hm) ?_
  refine Ev.bind (laws_eqCueS_rfl _ hm') ?_
  simp only [if_true]
  refine Ev.bind (laws_markCueS_ev _ 1 hl' (by omega) (by omega)) ?_
  have hc1 : (1 : Int) + 4 * ((l.map cvC).length : Int) < 4611686018427 := by simp only [List.length_map]; omega
  refine Ev.bind (laws_markCueS_ev _ _ hm' (by omega) hc1) ?_
  simp only [if_neg (show ¬ (1 + 4 * ((l.map cvC).length : Int) + 4 * ((m.map cvC).length : Int) < 0) by omega)]
  refine Ev.bind (laws_eqCueS_rfl q.1 hq') ?_
  simp only [if_true, bne_self_eq_false]
  refine ev_succ ?_
  simp only [laws_FnExactMergeScores.j1, Bool.false_eq_true, if_false]
  refine Ev.bind (laws_markCueS_ev q.1 1 hq' (by omega) (by omega)) ?_
  refine Ev.bind (laws_heldCueS_ev q.1.length hq') ?_
  simp only [if_neg (show ¬ (1 + 4 * (q.1.length : Int) < 0) by omega), if_true]
  refine Ev.bind (laws_toCueS_ev l hl) ?_
  refine Ev.bind (laws_toCueS_ev m hm) ?_
  refine Ev.bind hi ?_
  refine Ev.bind (laws_eqCueS_rfl q.1 hq') ?_
  simp only [if_true, bne_self_eq_false]
  refine ev_succ ?_
  simp only [laws_FnExactMergeScores.j2, Bool.false_eq_true, if_false]
  refine Ev.bind (laws_heldCueS_ev q.1.length hq') ?_
  simp only [if_neg (show ¬ (1 + 4 * (q.1.length : Int) < 0) by omega), if_true]
  exact Ev.now _

end Go.Proofs.Ytkljnmojnkiafaa.Pure
