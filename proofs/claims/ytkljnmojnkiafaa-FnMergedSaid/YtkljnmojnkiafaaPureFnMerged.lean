/- The law FnMerged comes to true for every input: a score is the merge of its parts, in either order, and each part keeps its levels. (P7) No condition beside the statement's own. -/
import Derived.Test.YtkljnmojnkiafaaStFnMerged
namespace Go.Proofs.Ytkljnmojnkiafaa.Pure
open Go Go.RowKit Go.Proofs.Ytkljnmojnkiafaa.MFnMerged Go.Proofs.YtkljnmojnkiafaaW.PrintWords Go.Proofs.YtkljnmojnkiafaaW.PrintLast Go.Proofs.YtkljnmojnkiafaaW.PrintMore
set_option linter.unusedVariables false
set_option linter.unusedSimpArgs false

theorem ev_succ {α : Type} {g : Nat → Option α} {r : α} (h : Ev (fun k => g (k + 1)) r) : Ev g r := Ev.step (fun _ => rfl) h
theorem ev_ite {α : Type} {c : Prop} [Decidable c] {f g : Nat → Option α} {r : α} (h : c → Ev f r) (h' : ¬ c → Ev g r) : Ev (fun k => if c then f k else g k) r := by
  by_cases hc : c
  · simp only [if_pos hc]; exact h hc
  · simp only [if_neg hc]; exact h' hc
theorem ix {α : Type} {l pre t : List α} {a : α} (h : l = pre ++ a :: t) (hl : l.length < 4611686018427387904) :
    (pre.length : Int) < (l.length : Int) ∧ (∀ d, l.getD pre.length d = a) ∧ wrap64 ((pre.length : Int) + 1) = ((pre ++ [a]).length : Int) ∧ l = (pre ++ [a]) ++ t := by
  subst h
  simp only [List.length_append, List.length_cons, List.length_nil] at *
  refine ⟨by omega, fun d => by simp [List.getD], by unfold wrap64; omega, by simp⟩
theorem ixn {α : Type} {l pre : List α} (h : l = pre ++ []) : ¬ (pre.length : Int) < (l.length : Int) := by
  subst h; simp
theorem nn (n : Nat) : (0 : Int) ≤ (n : Int) := Int.natCast_nonneg n
theorem w64 {n : Int} (h0 : -9223372036854775808 ≤ n) (h1 : n < 9223372036854775808) : wrap64 n = n := by unfold wrap64; omega
theorem mn_min (a b : Int) : mn a b = min a b := by unfold mn; omega
theorem mx_max (a b : Int) : mx a b = max a b := by unfold mx; omega
theorem set_app {α : Type} (pre t : List α) (a b : α) : (pre ++ a :: t).set pre.length b = pre ++ b :: t := by simp
theorem app1 {α : Type} (pre : List α) (a : α) (t : List α) : pre ++ a :: t = (pre ++ [a]) ++ t := by simp

/-- The numbers from c on, n of them. -/
def upto : Nat → Int → List Int
  | 0, _ => []
  | n + 1, c => c :: upto n (c + 1)
theorem upto_length : ∀ n c, (upto n c).length = n
  | 0, _ => rfl
  | n + 1, c => by simp [upto, upto_length n]

theorem spec_l1In_eq (a b c : Int) : spec_l1In.f a b c = some (decide (b ≤ a) && decide (a ≤ c)) := by
  unfold spec_l1In.f; split <;> simp <;> omega
theorem impl_isWithin_eq (a b c : Int) : impl_isWithin.f a b c = some (decide (b ≤ a) && decide (a ≤ c)) := by
  unfold impl_isWithin.f; split <;> simp <;> omega
theorem and255 (x : Int) : 0 ≤ Go.bits .and .i64 x 255 ∧ Go.bits .and .i64 x 255 ≤ 255 := by
  have h : ((BitVec.ofInt 64 x) &&& (BitVec.ofInt 64 255)).toNat ≤ 255 := by
    rw [BitVec.toNat_and]
    refine Nat.le_trans Nat.and_le_right ?_
    decide
  have e : Go.bits .and .i64 x 255 = IntKind.i64.wrap (((BitVec.ofInt 64 x) &&& (BitVec.ofInt 64 255)).toNat : Int) := by
    rfl
  rw [e]
  generalize ((BitVec.ofInt 64 x) &&& (BitVec.ofInt 64 255)).toNat = m at h
  rw [IntKind.wrap_i64]; omega
theorem l1Byte_ok (b : List Int) (i h : Int) (hb : b.length < 1099511627776) (hi : 0 ≤ i) : ∃ r i' h', spec_l1Byte.f b i h = some (r, i', h') ∧ 0 ≤ i' ∧ 0 ≤ r ∧ r ≤ 255 := by
  unfold spec_l1Byte.f
  split
  · exact ⟨_, _, _, rfl, by unfold wrap64; omega, and255 _⟩
  · exact ⟨_, _, _, rfl, hi, and255 _⟩
theorem l1Below_ok (b : List Int) (i h n : Int) (hb : b.length < 1099511627776) (hi : 0 ≤ i) : ∃ r i' h', spec_l1Below.f b i h n = some (r, i', h') ∧ 0 ≤ i' ∧ 0 ≤ r ∧ (r < n ∨ n ≤ 0 ∧ r = 0) := by
  unfold spec_l1Below.f
  split
  · exact ⟨_, _, _, rfl, hi, by omega, by omega⟩
  · rename_i hn
    split
    · obtain ⟨r, i', h', e, hi', h0, h1⟩ := l1Byte_ok b i h hb hi
      rw [e]; simp only [Option.bind_some]
      rw [if_neg (by omega)]
      exact ⟨_, _, _, rfl, hi', Int.tmod_nonneg _ h0, .inl (Int.tmod_lt_of_pos _ (by omega))⟩
    · obtain ⟨r, i1, h1, e, hi1, h0, h255⟩ := l1Byte_ok b i h hb hi
      rw [e]; simp only [Option.bind_some]
      obtain ⟨r2, i2, h2, e2, hi2, h02, h2552⟩ := l1Byte_ok b i1 h1 hb hi1
      rw [e2]; simp only [Option.bind_some]
      obtain ⟨r3, i3, h3, e3, hi3, h03, h2553⟩ := l1Byte_ok b i2 h2 hb hi2
      rw [e3]; simp only [Option.bind_some]
      rw [if_neg (by omega)]
      refine ⟨_, _, _, rfl, hi3, Int.tmod_nonneg _ ?_, .inl (Int.tmod_lt_of_pos _ (by omega))⟩
      unfold wrap64; omega
theorem l1Int_ok (b : List Int) (i h : Int) (l : List Int) (hb : b.length < 1099511627776) (hi : 0 ≤ i) (hl : l ≠ []) : ∃ r i' h', spec_l1Int.f b i h l = some (r, i', h') ∧ 0 ≤ i' ∧ r ∈ l := by
  obtain ⟨r, i', h', e, hi', h0, h1⟩ := l1Below_ok b i h (l.length : Int) hb hi
  have hp : 0 < l.length := List.length_pos_iff.2 hl
  unfold spec_l1Int.f
  rw [e]; simp only [Option.bind_some]
  have hlt : r < (l.length : Int) := by omega
  rw [if_pos h0, if_pos hlt]
  refine ⟨_, _, _, rfl, hi', ?_⟩
  have h2 : r.toNat < l.length := by omega
  simp only [rd, List.getD_eq_getElem?_getD, List.getElem?_eq_getElem h2, Option.getD_some]
  exact List.getElem_mem _
theorem l1Odd_ok (b : List Int) (i h : Int) (hb : b.length < 1099511627776) (hi : 0 ≤ i) : ∃ r i' h', spec_l1Odd.f b i h = some (r, i', h') ∧ 0 ≤ i' := by
  unfold spec_l1Odd.f
  obtain ⟨r, i', h', e, hi', _⟩ := l1Int_ok b i h [(-1), 0, 1, 2, 3, 7, 8, 9, 15, 16, 17, 63, 64, 65, 999, 1000, 4096, 4097, 9223372036854775807, (-9223372036854775808)] hb hi (by simp)
  rw [e]; simp only [Option.bind_some]
  exact ⟨_, _, _, rfl, hi'⟩
theorem l1New_l0 (b : List Int) (hb : b.length < 1099511627776) : ∀ (d i : Nat) (h : Int), i + d = b.length → ∃ h', Ev (fun k => spec_l1New.l0 k b h (i : Int)) (b, 0, h') := by
  intro d
  induction d with
  | zero =>
    intro i h hd
    refine ⟨h, ev_succ ?_⟩
    simp only [spec_l1New.l0, if_neg (show ¬ ((i : Int) < (b.length : Int)) by omega)]
    exact Ev.now _
  | succ d ih =>
    intro i h hd
    by_cases h4 : (i : Int) < 4000
    · obtain ⟨h', e⟩ := ih (i + 1) _ (by omega)
      refine ⟨h', ev_succ ?_⟩
      simp only [spec_l1New.l0, if_pos (show ((i : Int) < (b.length : Int)) by omega), if_pos h4, if_pos (nn _)]
      rw [show wrap64 ((i : Int) + 1) = ((i + 1 : Nat) : Int) by unfold wrap64; omega]
      exact e
    · refine ⟨h, ev_succ ?_⟩
      simp only [spec_l1New.l0, if_pos (show ((i : Int) < (b.length : Int)) by omega), if_neg h4]
      exact Ev.now _
theorem l1New_ev (b : List Int) (hb : b.length < 1099511627776) : ∃ h', Ev (fun k => spec_l1New.f k b) (b, 0, h') := l1New_l0 b hb b.length 0 _ (by omega)
theorem laws_big_eq (b : List Int) : laws_big.f b = some (decide ((b.length : Int) > 4096)) := rfl
theorem ix2 {α : Type} {l pre t : List α} {p a : α} (h : l = (pre ++ [p]) ++ a :: t) (hl : l.length < 4611686018427387904) :
    (((pre ++ [p]).length : Int)) > 0 ∧ wrap64 (((pre ++ [p]).length : Int) - 1) = (pre.length : Int) ∧ (∀ d, l.getD pre.length d = p) ∧ (pre.length : Int) < (l.length : Int) := by
  subst h
  simp only [List.length_append, List.length_cons, List.length_nil] at *
  refine ⟨by omega, by unfold wrap64; omega, fun d => by simp [List.getD], by omega⟩
theorem ev_eq {α : Type} {f g : Nat → Option α} {r : α} (h : f = g) (k : Ev g r) : Ev f r := h ▸ k
def pCmpI (a b : Int) : Int := if a < b then -1 else if a = b then 0 else 1
theorem cmp_Compare_int_eq (a b : Int) : cmp_Compare_int.f a b = some (pCmpI a b) := by
  simp only [cmp_Compare_int.f, cmp_isNaN_int.f, bne_self_eq_false, Option.bind_some, Bool.false_eq_true, if_false, pCmpI]
  repeat' split
  all_goals first | rfl | omega
theorem cmp_Or_int_ev (a b : Int) : Ev (fun k => cmp_Or_int.f k [a, b]) (if a = 0 then b else a) := by
  unfold cmp_Or_int.f
  refine ev_succ ?_
  simp only [cmp_Or_int.l0, List.length_cons, List.length_nil, if_pos (show ((0 : Int) < ((0 + 1 + 1 : Nat) : Int)) by omega), if_pos (show (0 : Int) ≤ 0 by omega), rd, Int.toNat_zero, List.getD_cons_zero]
  refine ev_ite (fun h => ?_) (fun h => ?_)
  · rw [if_pos h, show wrap64 (0 + 1) = 1 by unfold wrap64; omega]
    refine ev_succ ?_
    simp only [cmp_Or_int.l0, List.length_cons, List.length_nil, if_pos (show ((1 : Int) < ((0 + 1 + 1 : Nat) : Int)) by omega), if_pos (show (0 : Int) ≤ 1 by omega), rd, show ((1 : Int).toNat) = 1 from rfl, List.getD_cons_succ, List.getD_cons_zero]
    refine ev_ite (fun h2 => ?_) (fun h2 => Ev.now _)
    rw [show wrap64 (1 + 1) = 2 by unfold wrap64; omega, h2]
    refine ev_succ ?_
    simp only [cmp_Or_int.l0, List.length_cons, List.length_nil, if_neg (show ¬ ((2 : Int) < ((0 + 1 + 1 : Nat) : Int)) by omega)]
    exact Ev.now _
  · rw [if_neg h]; exact Ev.now _
def pMeas' (x : Int) : Bool := decide (-4096 ≤ x) && decide (x ≤ 4096)
theorem impl_IsMeasure_eq (x : Int) : impl_IsMeasure.f x = some (pMeas' x) := by
  simp only [impl_IsMeasure.f, impl_isWithin_eq, Option.bind_some, pMeas']
abbrev Cu := S42
def nmC (b : Int) (i : Nat) : Bool := (decide (97 ≤ b) && decide (b ≤ 122)) || ((decide (48 ≤ b) && decide (b ≤ 57)) && !decide (i = 0))
def nmR (a : ByteArray) : Nat → Nat → Bool
  | 0, _ => decide (1 ≤ (a.size : Int)) && decide ((a.size : Int) ≤ 8)
  | d + 1, i => nmC (bt a (i : Int)) i && nmR a d (i + 1)
def pName (a : ByteArray) : Bool := nmR a a.size 0
theorem spec_IsName_l0 (a : ByteArray) (ha : a.size ≤ 9223372036854775807) : ∀ (d i : Nat), i + d = a.size → Ev (fun k => spec_IsName.l0 k a (i : Int)) (nmR a d i) := by
  intro d
  induction d with
  | zero =>
    intro i h
    refine ev_succ ?_
    simp only [spec_IsName.l0, if_neg (show ¬ ((i : Int) < (a.size : Int)) by omega), nmR]
    refine ev_ite (fun c => ?_) (fun c => ?_)
    · rw [decide_eq_true (show 1 ≤ (a.size : Int) by omega), Bool.true_and]; exact Ev.now _
    · rw [decide_eq_false (show ¬ 1 ≤ (a.size : Int) by omega), Bool.false_and]; exact Ev.now _
  | succ d ih =>
    intro i h
    have ih' := ih (i + 1) (by omega)
    refine ev_succ ?_
    simp only [spec_IsName.l0, if_pos (show ((i : Int) < (a.size : Int)) by omega), if_pos (nn _), nmR]
    rw [show wrap64 ((i : Int) + 1) = ((i + 1 : Nat) : Int) by unfold wrap64; omega]
    generalize bt a (i : Int) = b
    have hi : ((i : Int) = 0) = (i = 0) := by simp
    simp only [nmC, hi]
    by_cases h1 : 97 ≤ b <;> by_cases h2 : b ≤ 122 <;> by_cases h3 : 48 ≤ b <;> by_cases h4 : b ≤ 57 <;> by_cases h5 : i = 0 <;> first | (exfalso; omega) | skip
    all_goals simp only [ge_iff_le, h1, h2, h3, h4, h5, decide_true, decide_false, Bool.true_and, Bool.false_and, Bool.and_true, Bool.and_false, Bool.or_true, Bool.true_or, Bool.or_false, Bool.false_or, Bool.not_true, Bool.not_false, if_true, if_false]
    all_goals first | exact Ev.now _ | exact ih' | (subst h5; exact ih')
theorem spec_IsName_ev (a : ByteArray) (ha : a.size ≤ 9223372036854775807) : Ev (fun k => spec_IsName.f k a) (pName a) := spec_IsName_l0 a ha a.size 0 (by omega)
theorem impl_IsName_l0 (a : ByteArray) (ha : a.size ≤ 9223372036854775807) : ∀ (d i : Nat), i + d = a.size → Ev (fun k => impl_IsName.l0 k a (a.size : Int) (i : Int)) (nmR a d i) := by
  intro d
  induction d with
  | zero =>
    intro i h
    refine ev_succ ?_
    simp only [impl_IsName.l0, if_neg (show ¬ ((i : Int) < (a.size : Int)) by omega), nmR, impl_isWithin_eq, Option.bind_some]
    exact Ev.now _
  | succ d ih =>
    intro i h
    have ih' := ih (i + 1) (by omega)
    refine ev_succ ?_
    simp only [impl_IsName.l0, if_pos (show ((i : Int) < (a.size : Int)) by omega), if_pos (nn _), nmR]
    rw [show wrap64 ((i : Int) + 1) = ((i + 1 : Nat) : Int) by unfold wrap64; omega]
    generalize bt a (i : Int) = b
    have hi : ((i : Int) = 0) = (i = 0) := by simp
    simp only [nmC, hi, gt_iff_lt, ← Int.not_le]
    by_cases h1 : 97 ≤ b <;> by_cases h2 : b ≤ 122 <;> by_cases h3 : 48 ≤ b <;> by_cases h4 : b ≤ 57 <;> by_cases h5 : i = 0 <;> first | (exfalso; omega) | skip
    all_goals simp only [ge_iff_le, h1, h2, h3, h4, h5, not_true_eq_false, not_false_eq_true, decide_true, decide_false, Bool.true_and, Bool.false_and, Bool.and_true, Bool.and_false, Bool.or_true, Bool.true_or, Bool.or_false, Bool.false_or, Bool.not_true, Bool.not_false, if_true, if_false]
    all_goals first | exact Ev.now _ | exact ih' | (subst h5; exact ih')
theorem impl_IsName_ev (a : ByteArray) (ha : a.size ≤ 9223372036854775807) : Ev (fun k => impl_IsName.f k a) (pName a) := impl_IsName_l0 a ha a.size 0 (by omega)
def pCue (t : Int) (n : ByteArray) (v r : Int) : Bool := (decide (0 ≤ t) && decide (t ≤ 64)) && (pName n && ((decide (0 ≤ v) && decide (v ≤ 32)) && (decide (0 ≤ r) && decide (r ≤ 16))))
theorem spec_IsCue_ev (t : Int) (n : ByteArray) (v r : Int) (hn : n.size ≤ 9223372036854775807) : Ev (fun k => spec_IsCue.f k t n v r) (pCue t n v r) := by
  simp only [spec_IsCue.f, spec_l1In_eq, Option.bind_some, pCue]
  refine ev_ite (fun c => ?_) (fun c => ?_)
  · rw [c, Bool.true_and]
    refine Ev.bind (spec_IsName_ev n hn) ?_
    refine ev_ite (fun c => ?_) (fun c => ?_)
    · rw [c, Bool.true_and]
      refine ev_ite (fun c => ?_) (fun c => ?_)
      · rw [c, Bool.true_and]; exact Ev.now _
      · rw [Bool.eq_false_iff.2 c, Bool.false_and]; exact Ev.now _
    · rw [Bool.eq_false_iff.2 c, Bool.false_and]; exact Ev.now _
  · rw [Bool.eq_false_iff.2 c, Bool.false_and]; exact Ev.now _
theorem impl_IsCue_ev (t : Int) (n : ByteArray) (v r : Int) (hn : n.size ≤ 9223372036854775807) : Ev (fun k => impl_IsCue.f k t n v r) (pCue t n v r) := by
  simp only [impl_IsCue.f, impl_isWithin_eq, Option.bind_some, pCue]
  refine ev_ite (fun c => ?_) (fun c => ?_)
  · rw [c, Bool.true_and]
    refine Ev.bind (impl_IsName_ev n hn) ?_
    refine ev_ite (fun c => ?_) (fun c => ?_)
    · rw [c, Bool.true_and]
      refine ev_ite (fun c => ?_) (fun c => ?_)
      · rw [c, Bool.true_and]; exact Ev.now _
      · rw [Bool.eq_false_iff.2 c, Bool.false_and]; exact Ev.now _
    · rw [Bool.eq_false_iff.2 c, Bool.false_and]; exact Ev.now _
  · rw [Bool.eq_false_iff.2 c, Bool.false_and]; exact Ev.now _
theorem bl_irrefl : ∀ x, Op.bytesLess x x = false
  | [] => rfl
  | a :: x => by
    simp only [Op.bytesLess, bl_irrefl x, Bool.and_false, Bool.or_false, decide_eq_false_iff_not]
    exact UInt8.lt_irrefl a
theorem bl_tri : ∀ x y, Op.bytesLess x y = false → Op.bytesLess y x = false → x = y
  | [], [], _, _ => rfl
  | [], _ :: _, h, _ => by simp [Op.bytesLess] at h
  | _ :: _, [], _, h => by simp [Op.bytesLess] at h
  | a :: x, b :: y, h, h' => by
    simp only [Op.bytesLess, Bool.or_eq_false_iff, decide_eq_false_iff_not] at h h'
    have hab : a = b := by
      have h1 := h.1; have h2 := h'.1
      exact UInt8.le_antisymm (UInt8.not_lt.1 h2) (UInt8.not_lt.1 h1)
    subst hab
    simp only [beq_self_eq_true, Bool.true_and] at h h'
    rw [bl_tri x y h.2 h'.2]
theorem bl_trans : ∀ x y z, Op.bytesLess x y = true → Op.bytesLess y z = true → Op.bytesLess x z = true
  | _, _, [], _, h => by cases ‹List UInt8› <;> simp [Op.bytesLess] at h
  | [], _, _ :: _, _, _ => rfl
  | _ :: _, [], _ :: _, h, _ => by simp [Op.bytesLess] at h
  | a :: x, b :: y, c :: z, h, h' => by
    simp only [Op.bytesLess, Bool.or_eq_true, decide_eq_true_eq, Bool.and_eq_true, beq_iff_eq] at h h' ⊢
    rcases h with h | ⟨h, h2⟩
    · rcases h' with h' | ⟨h', h2'⟩
      · exact .inl (UInt8.lt_trans h h')
      · exact .inl (h' ▸ h)
    · rcases h' with h' | ⟨h', h2'⟩
      · exact .inl (h ▸ h')
      · exact .inr ⟨h.trans h', bl_trans x y z h2 h2'⟩
/-- The order of cues. -/
def pCmpC (a : Int) (b : ByteArray) (c : Int) (d : ByteArray) : Int :=
  if a < c then -1 else if a = c then (if Op.bytesLess b.toList d.toList = true then -1 else if b.toList = d.toList then 0 else 1) else 1
theorem spec_CompareCues_ev (a : Int) (b : ByteArray) (v r c : Int) (d : ByteArray) (v' r' : Int) : Ev (fun k => spec_CompareCues.f k a b v r c d v' r') (pCmpC a b c d) := by
  unfold spec_CompareCues.f pCmpC
  refine ev_ite (fun h => ?_) (fun h => ?_)
  · rw [if_pos h, decide_eq_true h]
    refine ev_succ ?_
    simp only [spec_CompareCues.j0, if_true]; exact Ev.now _
  · rw [if_neg h]
    refine ev_ite (fun h1 => ?_) (fun h1 => ?_)
    · rw [if_pos h1]
      refine ev_succ ?_
      simp only [spec_CompareCues.j0]
      refine ev_ite (fun h2 => ?_) (fun h2 => ?_)
      · rw [if_pos h2]; exact Ev.now _
      · rw [if_neg h2]
        simp only [if_pos h1]
        refine ev_ite (fun h3 => ?_) (fun h3 => ?_)
        · rw [if_pos h3]; exact Ev.now _
        · rw [if_neg h3]; exact Ev.now _
    · rw [if_neg h1]
      refine ev_succ ?_
      simp only [spec_CompareCues.j0, Bool.false_eq_true, if_false, if_neg h1]; exact Ev.now _
def pCmpS (a b : ByteArray) : Int := if Op.bytesLess a.toList b.toList = true then -1 else if a.toList = b.toList then 0 else 1
theorem cmp_Compare_string_eq (a b : ByteArray) : cmp_Compare_string.f a b = some (pCmpS a b) := by
  simp only [cmp_Compare_string.f, cmp_isNaN_string.f, bne_self_eq_false, Option.bind_some, Bool.false_eq_true, if_false, pCmpS]
  split
  · rfl
  · rename_i h
    split
    · rename_i h2
      rw [if_neg]
      intro e
      rw [e, bl_irrefl] at h2
      cases h2
    · rename_i h2
      rw [if_pos (bl_tri _ _ (Bool.eq_false_iff.2 h) (Bool.eq_false_iff.2 h2))]
theorem impl_CompareCues_ev (a : Int) (b : ByteArray) (v r c : Int) (d : ByteArray) (v' r' : Int) : Ev (fun k => impl_CompareCues.f k a b v r c d v' r') (pCmpC a b c d) := by
  simp only [impl_CompareCues.f, cmp_Compare_int_eq, cmp_Compare_string_eq, Option.bind_some]
  have := cmp_Or_int_ev (pCmpI a c) (pCmpS b d)
  have e : (if pCmpI a c = 0 then pCmpS b d else pCmpI a c) = pCmpC a b c d := by
    unfold pCmpI pCmpC pCmpS
    by_cases h1 : a < c
    · simp [h1]
    · by_cases h2 : a = c
      · simp [h2]
      · simp [h1, h2]
  rw [e] at this
  exact Ev.bind this (Ev.now _)
/-- Every name of a list is a string that Go can hold. -/
def szN (l : List Cu) : Prop := ∀ c ∈ l, c.f1.size ≤ 9223372036854775807
def cOk (c : Cu) : Bool := pCue c.f0 c.f1 c.f2 c.f3
def cLt (a b : Cu) : Bool := decide (pCmpC a.f0 a.f1 b.f0 b.f1 < 0)
def sRest : Cu → List Cu → Bool
  | _, [] => true
  | p, q :: t => cOk q && (cLt p q && sRest q t)
def sAll : List Cu → Bool
  | [] => true
  | q :: t => cOk q && sRest q t
/-- IsScore -/
def pScore (l : List Cu) : Bool := sAll l && decide ((l.length : Int) ≤ 12)
theorem pScore_len {l : List Cu} (h : pScore l = true) : l.length ≤ 12 := by
  simp only [pScore, Bool.and_eq_true, decide_eq_true_eq] at h; omega
theorem szN_mid {l pre t : List Cu} {a : Cu} (h : szN l) (e : l = pre ++ a :: t) : a.f1.size ≤ 9223372036854775807 := h a (by simp [e])
theorem sRest_all : ∀ (l : List Cu) (p : Cu), sRest p l = true → ∀ c ∈ l, cOk c = true
  | [], _, _, c, hc => by cases hc
  | q :: t, p, h, c, hc => by
    simp only [sRest, Bool.and_eq_true] at h
    cases hc with
    | head => exact h.1
    | tail _ hc => exact sRest_all t q h.2.2 c hc
theorem sAll_all : ∀ (l : List Cu), sAll l = true → ∀ c ∈ l, cOk c = true
  | [], _, c, hc => by cases hc
  | q :: t, h, c, hc => by
    simp only [sAll, Bool.and_eq_true] at h
    cases hc with
    | head => exact h.1
    | tail _ hc => exact sRest_all t q h.2 c hc
theorem pScore_all {l : List Cu} (h : pScore l = true) : ∀ c ∈ l, cOk c = true := by
  simp only [pScore, Bool.and_eq_true] at h; exact sAll_all l h.1
theorem cLt_iff (a b : Cu) : cLt a b = true ↔ a.f0 < b.f0 ∨ (a.f0 = b.f0 ∧ Op.bytesLess a.f1.toList b.f1.toList = true) := by
  unfold cLt
  rw [decide_eq_true_iff]
  unfold pCmpC
  by_cases h1 : a.f0 < b.f0
  · simp [h1]
  · by_cases h2 : a.f0 = b.f0
    · rw [if_neg h1, if_pos h2]
      by_cases h3 : Op.bytesLess a.f1.toList b.f1.toList = true
      · simp [h2, h3]
      · rw [if_neg h3]
        split <;> simp [h1, h2, h3]
    · simp [h1, h2]
theorem cLt_trans {a b c : Cu} (h : cLt a b = true) (h' : cLt b c = true) : cLt a c = true := by
  rw [cLt_iff] at *
  rcases h with h | ⟨h, h2⟩
  · rcases h' with h' | ⟨h', _⟩ <;> exact .inl (by omega)
  · rcases h' with h' | ⟨h', h2'⟩
    · exact .inl (by omega)
    · exact .inr ⟨by omega, bl_trans _ _ _ h2 h2'⟩
theorem sRest_iff : ∀ (l : List Cu) (p : Cu), sRest p l = true ↔ (∀ c ∈ l, cOk c = true) ∧ (∀ c ∈ l, cLt p c = true) ∧ l.Pairwise (fun a b => cLt a b = true)
  | [], _ => by simp [sRest]
  | q :: t, p => by
    simp only [sRest, Bool.and_eq_true, sRest_iff t q, List.mem_cons, List.pairwise_cons, forall_eq_or_imp]
    constructor
    · rintro ⟨h1, h2, h3, h4, h5⟩
      exact ⟨⟨h1, h3⟩, ⟨h2, fun c hc => cLt_trans h2 (h4 c hc)⟩, h4, h5⟩
    · rintro ⟨⟨h1, h3⟩, ⟨h2, _⟩, h4, h5⟩
      exact ⟨h1, h2, h3, h4, h5⟩
theorem sAll_iff (l : List Cu) : sAll l = true ↔ (∀ c ∈ l, cOk c = true) ∧ l.Pairwise (fun a b => cLt a b = true) := by
  cases l with
  | nil => simp [sAll]
  | cons q t =>
    simp only [sAll, Bool.and_eq_true, sRest_iff, List.mem_cons, List.pairwise_cons, forall_eq_or_imp]
    constructor
    · rintro ⟨h1, h2, h3, h4⟩; exact ⟨⟨h1, h2⟩, h3, h4⟩
    · rintro ⟨⟨h1, h2⟩, h3, h4⟩; exact ⟨h1, h2, h3, h4⟩
theorem pScore_iff (l : List Cu) : pScore l = true ↔ ((∀ c ∈ l, cOk c = true) ∧ l.Pairwise (fun a b => cLt a b = true)) ∧ l.length ≤ 12 := by
  simp only [pScore, Bool.and_eq_true, sAll_iff, decide_eq_true_eq]
  have : ((l.length : Int) ≤ 12) ↔ l.length ≤ 12 := by omega
  rw [this]
theorem pScore_filter {l : List Cu} (h : pScore l = true) (p : Cu → Bool) : pScore (l.filter p) = true := by
  rw [pScore_iff] at *
  exact ⟨⟨fun c hc => h.1.1 c ((List.mem_filter.1 hc).1), h.1.2.sublist List.filter_sublist⟩, Nat.le_trans (List.length_filter_le _ _) h.2⟩
theorem spec_IsScore_l0 (l : List Cu) (hl : l.length < 1099511627776) (hz : szN l) : ∀ (suf pre : List Cu) (p : Cu), l = (pre ++ [p]) ++ suf →
    Ev (fun k => spec_IsScore.l0 k l l (l.length : Int) ((pre ++ [p]).length : Int)) (sRest p suf && decide ((l.length : Int) ≤ 12)) := by
  intro suf
  induction suf with
  | nil =>
    intro pre p h
    refine ev_succ ?_
    simp only [spec_IsScore.l0, if_neg (ixn h), sRest, Bool.true_and]
    exact Ev.now _
  | cons a t ih =>
    intro pre p h
    obtain ⟨h1, h2, h3, h4⟩ := ix h (by omega)
    obtain ⟨h5, h6, h7, h8⟩ := ix2 h (by omega)
    refine ev_succ ?_
    simp only [spec_IsScore.l0, if_pos h1, if_pos (nn _), Int.toNat_natCast, rd_T42, h2, h3, h6, h7, if_pos h5, if_pos h8]
    rw [sRest]
    refine Ev.bind (spec_IsCue_ev _ _ _ _ (szN_mid hz h)) ?_
    change Ev (fun k => if cOk a = true then _ else _) _
    refine ev_ite (fun c1 => ?_) (fun c1 => ?_)
    · rw [c1, Bool.true_and]
      refine Ev.bind (spec_CompareCues_ev _ _ _ _ _ _ _ _) ?_
      rw [cLt]
      refine ev_ite (fun c3 => ?_) (fun c3 => ?_)
      · rw [decide_eq_false (by omega), Bool.false_and, Bool.false_and]; exact Ev.now _
      · rw [decide_eq_true (by omega), Bool.true_and]; exact ih (pre ++ [p]) a h4
    · rw [Bool.eq_false_iff.2 c1, Bool.false_and, Bool.false_and]; exact Ev.now _
theorem spec_IsScore_ev (l : List Cu) (hl : l.length < 1099511627776) (hz : szN l) : Ev (fun k => spec_IsScore.f k l) (pScore l) := by
  unfold spec_IsScore.f pScore
  refine ev_succ ?_
  cases l with
  | nil =>
    simp only [spec_IsScore.l0]
    exact Ev.now _
  | cons a t =>
    obtain ⟨h1, h2, h3, h4⟩ := ix (l := a :: t) (pre := []) rfl (by omega)
    simp only [List.length_nil, Int.natCast_zero] at h1 h2 h3
    simp only [spec_IsScore.l0, if_pos h1, if_pos (show (0 : Int) ≤ 0 by omega), Int.toNat_zero, rd_T42, h2, h3, if_neg (show ¬ ((0 : Int) > 0) by omega)]
    rw [sAll]
    refine Ev.bind (spec_IsCue_ev _ _ _ _ (szN_mid (pre := []) hz rfl)) ?_
    change Ev (fun k => if cOk a = true then _ else _) _
    refine ev_ite (fun c1 => ?_) (fun c1 => ?_)
    · rw [c1, Bool.true_and]
      exact spec_IsScore_l0 (a :: t) hl hz t [] a rfl
    · rw [Bool.eq_false_iff.2 c1, Bool.false_and, Bool.false_and]; exact Ev.now _
theorem impl_IsScore_l0 (l : List Cu) (hl : l.length < 1099511627776) (hz : szN l) : ∀ (suf pre : List Cu) (p : Cu), l = (pre ++ [p]) ++ suf →
    Ev (fun k => impl_IsScore.l0 k l l (l.length : Int) ((pre ++ [p]).length : Int)) (sRest p suf && decide ((l.length : Int) ≤ 12)) := by
  intro suf
  induction suf with
  | nil =>
    intro pre p h
    refine ev_succ ?_
    simp only [impl_IsScore.l0, if_neg (ixn h), sRest, Bool.true_and]
    exact Ev.now _
  | cons a t ih =>
    intro pre p h
    obtain ⟨h1, h2, h3, h4⟩ := ix h (by omega)
    obtain ⟨h5, h6, h7, h8⟩ := ix2 h (by omega)
    refine ev_succ ?_
    simp only [impl_IsScore.l0, if_pos h1, if_pos (nn _), Int.toNat_natCast, rd_T42, h2, h3, h6, h7, if_pos h5, if_pos h8]
    rw [sRest]
    refine Ev.bind (impl_IsCue_ev _ _ _ _ (szN_mid hz h)) ?_
    change Ev (fun k => if cOk a = true then _ else _) _
    refine ev_ite (fun c1 => ?_) (fun c1 => ?_)
    · rw [c1, Bool.true_and]
      refine Ev.bind (impl_CompareCues_ev _ _ _ _ _ _ _ _) ?_
      rw [cLt]
      refine ev_ite (fun c3 => ?_) (fun c3 => ?_)
      · rw [decide_eq_false (by omega), Bool.false_and, Bool.false_and]; exact Ev.now _
      · rw [decide_eq_true (by omega), Bool.true_and]; exact ih (pre ++ [p]) a h4
    · rw [Bool.eq_false_iff.2 c1, Bool.false_and, Bool.false_and]; exact Ev.now _
theorem impl_IsScore_ev (l : List Cu) (hl : l.length < 1099511627776) (hz : szN l) : Ev (fun k => impl_IsScore.f k l) (pScore l) := by
  unfold impl_IsScore.f pScore
  refine ev_succ ?_
  cases l with
  | nil =>
    simp only [impl_IsScore.l0]
    exact Ev.now _
  | cons a t =>
    obtain ⟨h1, h2, h3, h4⟩ := ix (l := a :: t) (pre := []) rfl (by omega)
    simp only [List.length_nil, Int.natCast_zero] at h1 h2 h3
    simp only [impl_IsScore.l0, if_pos h1, if_pos (show (0 : Int) ≤ 0 by omega), Int.toNat_zero, rd_T42, h2, h3, if_neg (show ¬ ((0 : Int) > 0) by omega)]
    rw [sAll]
    refine Ev.bind (impl_IsCue_ev _ _ _ _ (szN_mid (pre := []) hz rfl)) ?_
    change Ev (fun k => if cOk a = true then _ else _) _
    refine ev_ite (fun c1 => ?_) (fun c1 => ?_)
    · rw [c1, Bool.true_and]
      exact impl_IsScore_l0 (a :: t) hl hz t [] a rfl
    · rw [Bool.eq_false_iff.2 c1, Bool.false_and, Bool.false_and]; exact Ev.now _
def pFloor (a b : Int) : Int := if Int.tmod a b < 0 then wrap64 (wrap64 (Int.tdiv a b) - 1) else wrap64 (Int.tdiv a b)
def rMeas (x : Int) : Bool := decide (-4096 ≤ x) && decide (x ≤ 4096)
/-- RampAt -/
def pRamp (a b t d : Int) : Int := if (rMeas a && rMeas b) = true then (if d ≤ t then b else if t ≤ 0 then a else if 999 < d then a else wrap64 (a + pFloor (wrap64 (t * wrap64 (b - a))) d)) else 0
theorem impl_floorDiv_eq (a b : Int) (h : ¬ b = 0) : impl_floorDiv.f a b = some (pFloor a b) := by
  unfold impl_floorDiv.f pFloor; rw [if_neg h]; split <;> rfl
theorem impl_RampAt_ev (a b t d : Int) : Ev (fun k => impl_RampAt.f k a b t d) (pRamp a b t d) := by
  have j : ∀ c : Bool, Ev (fun k => impl_RampAt.j0 k a b t d c) (if c = true then 0 else (if d ≤ t then b else if t ≤ 0 then a else if 999 < d then a else wrap64 (a + pFloor (wrap64 (t * wrap64 (b - a))) d))) := by
    intro c
    refine ev_succ ?_
    simp only [impl_RampAt.j0]
    refine ev_ite (fun h => ?_) (fun h => ?_)
    · rw [if_pos h]; exact Ev.now _
    · rw [if_neg h]
      refine ev_ite (fun h1 => ?_) (fun h1 => ?_)
      · rw [if_pos h1]; exact Ev.now _
      · rw [if_neg h1]
        refine ev_ite (fun h2 => ?_) (fun h2 => ?_)
        · rw [if_pos h2]; exact Ev.now _
        · rw [if_neg h2]
          refine ev_ite (fun h3 => ?_) (fun h3 => ?_)
          · rw [if_pos h3]; exact Ev.now _
          · rw [if_neg h3]
            simp only [impl_floorDiv_eq _ d (show ¬ d = 0 by omega), Option.bind_some]
            exact Ev.now _
  simp only [impl_RampAt.f, impl_IsMeasure_eq, Option.bind_some, pRamp]
  change Ev (fun k => if rMeas a = true then impl_RampAt.j0 k a b t d (!rMeas b) else _) _
  refine ev_ite (fun h => ?_) (fun h => ?_)
  · rw [h, Bool.true_and]
    have := j (!rMeas b)
    cases hb : rMeas b <;> simpa [hb] using this
  · have := j true
    rw [Bool.eq_false_iff.2 h, Bool.false_and]; simpa using this
def pLevL (n : ByteArray) (t : Int) : Int → Int → Int → Int → List Cu → Int
  | v, t0, v1, r, [] => pRamp v v1 (wrap64 (t - t0)) r
  | v, t0, v1, r, c :: l => if c.f1.toList = n.toList then (if c.f0 ≤ t then pLevL n t (pRamp v v1 (wrap64 (c.f0 - t0)) r) c.f0 c.f2 c.f3 l else pLevL n t v t0 v1 r l) else pLevL n t v t0 v1 r l
/-- LevelAt -/
def pLevel (l : List Cu) (n : ByteArray) (t : Int) : Int := if pScore l = true then (if t < 0 then 0 else pLevL n t 0 0 0 0 l) else 0
theorem impl_LevelAt_l0 (l : List Cu) (n : ByteArray) (t : Int) (hl : l.length < 1099511627776) : ∀ (suf pre : List Cu) (v t0 : Int) (m : ByteArray) (v1 r : Int), l = pre ++ suf →
    Ev (fun k => impl_LevelAt.l0 k n t v l (l.length : Int) (pre.length : Int) t0 m v1 r) (pLevL n t v t0 v1 r suf) := by
  intro suf
  induction suf with
  | nil =>
    intro pre v t0 m v1 r h
    refine ev_succ ?_
    simp only [impl_LevelAt.l0, if_neg (ixn h), pLevL]
    exact Ev.bind (impl_RampAt_ev _ _ _ _) (Ev.now _)
  | cons a s ih =>
    intro pre v t0 m v1 r h
    obtain ⟨h1, h2, h3, h4⟩ := ix h (by omega)
    refine ev_succ ?_
    simp only [impl_LevelAt.l0, if_pos h1, if_pos (nn _), Int.toNat_natCast, rd_T42, h2, h3]
    rw [pLevL]
    refine ev_ite (fun c => ?_) (fun c => ?_)
    · rw [if_pos c]
      refine ev_ite (fun c => ?_) (fun c => ?_)
      · rw [if_pos c]
        exact Ev.bind (impl_RampAt_ev _ _ _ _) (ih _ _ _ _ _ _ h4)
      · rw [if_neg c]; exact ih _ _ _ _ _ _ h4
    · rw [if_neg c]; exact ih _ _ _ _ _ _ h4
theorem impl_LevelAt_ev (l : List Cu) (n : ByteArray) (t : Int) (hl : l.length < 1099511627776) (hz : szN l) : Ev (fun k => impl_LevelAt.f k l n t) (pLevel l n t) := by
  have j1 : Ev (fun k => impl_LevelAt.j0 k l n t true) 0 := by
    refine ev_succ ?_
    simp only [impl_LevelAt.j0, if_true]; exact Ev.now _
  unfold impl_LevelAt.f pLevel
  refine Ev.bind (impl_IsScore_ev l hl hz) ?_
  refine ev_ite (fun h => ?_) (fun h => ?_)
  · rw [if_pos h]
    by_cases h : t < 0
    · rw [if_pos h]; simpa only [decide_eq_true h] using j1
    · rw [if_neg h]
      refine ev_succ ?_
      simp only [impl_LevelAt.j0, decide_eq_false h, Bool.false_eq_true, if_false]
      exact impl_LevelAt_l0 l n t hl l [] 0 0 _ 0 0 rfl
  · rw [if_neg h]; exact j1
def pHas (ns : List ByteArray) (x : ByteArray) : Bool := ns.any (fun n => decide (n.toList = x.toList))
/-- OnlyNames -/
def pOnly (l : List Cu) (ns : List ByteArray) : List Cu := if pScore l = true then l.filter (fun c => pHas ns c.f1) else []
def sIdx (x : ByteArray) : List ByteArray → Int → Int
  | [], _ => -1
  | a :: t, i => if x.toList = a.toList then i else sIdx x t (i + 1)
theorem slices_Index_str_l0 (l : List ByteArray) (x : ByteArray) (hl : l.length < 1099511627776) : ∀ (suf pre : List ByteArray), l = pre ++ suf →
    Ev (fun k => slices_Index_string_string.l0 k l x (l.length : Int) (pre.length : Int)) (sIdx x suf (pre.length : Int)) := by
  intro suf
  induction suf with
  | nil =>
    intro pre h
    refine ev_succ ?_
    simp only [slices_Index_string_string.l0, if_neg (ixn h)]
    exact Ev.now _
  | cons a s ih =>
    intro pre h
    obtain ⟨h1, h2, h3, h4⟩ := ix h (by omega)
    refine ev_succ ?_
    simp only [slices_Index_string_string.l0, if_pos h1, if_pos (nn _), Int.toNat_natCast, rdOf, h2, h3]
    rw [sIdx]
    refine ev_ite (fun c => ?_) (fun c => ?_)
    · rw [if_pos c]; exact Ev.now _
    · rw [if_neg c]
      have := ih _ h4
      rwa [show ((pre ++ [a]).length : Int) = (pre.length : Int) + 1 by simp] at this ⊢
theorem sIdx_has (x : ByteArray) : ∀ (l : List ByteArray) (i : Int), 0 ≤ i → decide (sIdx x l i ≥ 0) = l.any (fun n => decide (n.toList = x.toList))
  | [], _, _ => rfl
  | a :: t, i, h => by
    rw [sIdx, List.any_cons]
    by_cases c : x.toList = a.toList
    · rw [if_pos c, decide_eq_true (show i ≥ 0 from h), decide_eq_true c.symm, Bool.true_or]
    · rw [if_neg c, decide_eq_false (show ¬ a.toList = x.toList from fun e => c e.symm), Bool.false_or]; exact sIdx_has x t (i + 1) (by omega)
theorem slices_Contains_str_ev (l : List ByteArray) (x : ByteArray) (hl : l.length < 1099511627776) : Ev (fun k => slices_Contains_string_string.f k l x) (pHas l x) := by
  unfold slices_Contains_string_string.f
  refine Ev.bind (slices_Index_str_l0 l x hl l [] rfl) ?_
  rw [pHas, ← sIdx_has x l 0 (by omega)]
  exact Ev.now _
theorem impl_OnlyNames_l0 (l : List Cu) (ns : List ByteArray) (hl : l.length < 1099511627776) (hn : ns.length < 1099511627776) : ∀ (suf pre out : List Cu), l = pre ++ suf → out.length ≤ pre.length →
    Ev (fun k => impl_OnlyNames.l0 k ns out l (l.length : Int) (pre.length : Int)) (out ++ suf.filter (fun c => pHas ns c.f1)) := by
  intro suf
  induction suf with
  | nil =>
    intro pre out h _
    refine ev_succ ?_
    simp only [impl_OnlyNames.l0, if_neg (ixn h)]
    simpa using Ev.now out
  | cons a s ih =>
    intro pre out h ho
    obtain ⟨h1, h2, h3, h4⟩ := ix h (by omega)
    refine ev_succ ?_
    simp only [impl_OnlyNames.l0, if_pos h1, if_pos (nn _), Int.toNat_natCast, rd_T42, h2, h3]
    refine Ev.bind (slices_Contains_str_ev ns _ hn) ?_
    refine ev_ite (fun d => ?_) (fun d => ?_)
    · rw [List.filter_cons_of_pos (by simpa using d)]
      simp only [if_pos (show out.length < 3518437208883 by omega)]
      have := ih (pre ++ [a]) (out ++ [a]) h4 (by simp; omega)
      simpa using this
    · rw [List.filter_cons_of_neg (by simpa using d)]
      exact ih (pre ++ [a]) out h4 (by simp; omega)
theorem impl_OnlyNames_ev (l : List Cu) (ns : List ByteArray) (hl : l.length < 1099511627776) (hz : szN l) (hn : ns.length < 1099511627776) : Ev (fun k => impl_OnlyNames.f k l ns) (pOnly l ns) := by
  simp only [impl_OnlyNames.f, Option.bind_some, pOnly]
  refine Ev.bind (impl_IsScore_ev l hl hz) ?_
  refine ev_ite (fun c => ?_) (fun c => ?_)
  · rw [if_pos c]; exact impl_OnlyNames_l0 l ns hl hn l [] [] rfl (by simp)
  · rw [if_neg c]; exact Ev.now _
theorem spec_l7Copies_eq (l : List Cu) (hl : l.length < 1099511627776) : spec_l7Copies.f l = some l := by
  simp only [spec_l7Copies.f, Option.bind_some, List.length_nil, if_pos (show 0 + l.length < 3518437208883 by omega), List.nil_append]
def cCmp (a b : Cu) : Int := pCmpC a.f0 a.f1 b.f0 b.f1
theorem cCmp_cases (a b : Cu) : (cCmp a b < 0 ∧ cLt a b = true) ∨ (cCmp a b = 0 ∧ a.f0 = b.f0 ∧ a.f1.toList = b.f1.toList) ∨ (cCmp a b > 0 ∧ cLt b a = true) := by
  by_cases h : cLt a b = true
  · left; exact ⟨by simpa [cLt, cCmp] using h, h⟩
  · right
    have h' := h
    rw [cLt_iff] at h'
    unfold cCmp pCmpC
    rw [if_neg (fun c => h' (.inl c))]
    by_cases h2 : a.f0 = b.f0
    · rw [if_pos h2, if_neg (fun c => h' (.inr ⟨h2, c⟩))]
      by_cases h3 : a.f1.toList = b.f1.toList
      · left; rw [if_pos h3]; exact ⟨rfl, h2, h3⟩
      · right; rw [if_neg h3]
        refine ⟨by omega, ?_⟩
        rw [cLt_iff]
        refine .inr ⟨h2.symm, ?_⟩
        cases hb : Op.bytesLess b.f1.toList a.f1.toList
        · exact absurd (bl_tri _ _ (Bool.eq_false_iff.2 (fun c => h' (.inr ⟨h2, c⟩))) hb) h3
        · rfl
    · right; rw [if_neg h2]
      refine ⟨by omega, ?_⟩
      rw [cLt_iff]
      exact .inl (by have : ¬ a.f0 < b.f0 := fun c => h' (.inl c)
                     omega)
/-- Where a cue goes. -/
def putTail (c : Cu) : List Cu → Option (List Cu)
  | [] => some [c]
  | d :: t => if cCmp d c < 0 then (putTail c t).map (d :: ·) else if cCmp d c = 0 then none else some (c :: d :: t)
def pPut (l : List Cu) (c : Cu) : List Cu × Bool := match putTail c l with
  | none => (l, false)
  | some r => (r, true)
/-- AddCue -/
def pAdd (l : List Cu) (c : Cu) : List Cu × Bool := if (pScore l && cOk c) = true then (if (pPut l c).2 = true then (if (l.length : Int) = 12 then (l, false) else ((pPut l c).1, true)) else (l, false)) else (l, false)
theorem putTail_mem (c : Cu) : ∀ (l r : List Cu), putTail c l = some r → ∀ x ∈ r, x = c ∨ x ∈ l
  | [], r, h, x, hx => by cases h; simp at hx; exact .inl hx
  | d :: t, r, h, x, hx => by
    unfold putTail at h
    split at h
    · cases ht : putTail c t with
      | none => rw [ht] at h; cases h
      | some r' =>
        rw [ht] at h; cases h
        cases hx with
        | head => exact .inr (by simp)
        | tail _ hx => rcases putTail_mem c t r' ht x hx with h | h
                       · exact .inl h
                       · exact .inr (by simp [h])
    · split at h
      · cases h
      · cases h; simp at hx; rcases hx with h | h | h
        · exact .inl h
        · exact .inr (by simp [h])
        · exact .inr (by simp [h])
theorem putTail_length (c : Cu) : ∀ (l r : List Cu), putTail c l = some r → r.length = l.length + 1
  | [], r, h => by cases h; rfl
  | d :: t, r, h => by
    unfold putTail at h
    split at h
    · cases ht : putTail c t with
      | none => rw [ht] at h; cases h
      | some r' => rw [ht] at h; cases h; simp [putTail_length c t r' ht]
    · split at h
      · cases h
      · cases h; simp
theorem putTail_sorted (c : Cu) : ∀ (l r : List Cu), putTail c l = some r → l.Pairwise (fun a b => cLt a b = true) → r.Pairwise (fun a b => cLt a b = true)
  | [], r, h, _ => by cases h; simp
  | d :: t, r, h, hp => by
    rw [List.pairwise_cons] at hp
    unfold putTail at h
    split at h
    · rename_i hc
      cases ht : putTail c t with
      | none => rw [ht] at h; cases h
      | some r' =>
        rw [ht] at h; cases h
        rw [List.pairwise_cons]
        refine ⟨fun x hx => ?_, putTail_sorted c t r' ht hp.2⟩
        rcases putTail_mem c t r' ht x hx with h | h
        · rw [h]; rcases cCmp_cases d c with h | h | h
          · exact h.2
          · omega
          · omega
        · exact hp.1 x h
    · rename_i hc
      split at h
      · cases h
      · rename_i hc2
        cases h
        have hcd : cLt c d = true := by
          rcases cCmp_cases d c with h | h | h
          · omega
          · omega
          · exact h.2
        rw [List.pairwise_cons, List.pairwise_cons]
        refine ⟨fun x hx => ?_, hp⟩
        cases hx with
        | head => exact hcd
        | tail _ hx => exact cLt_trans hcd (hp.1 x hx)
theorem pAdd_score {l : List Cu} (h : pScore l = true) (c : Cu) : pScore (pAdd l c).1 = true := by
  unfold pAdd
  split
  · rename_i h1
    simp only [Bool.and_eq_true] at h1
    split
    · rename_i h2
      split
      · exact h
      · rename_i h3
        unfold pPut at h2 ⊢
        cases hp : putTail c l with
        | none => rw [hp] at h2; cases h2
        | some r =>
          simp only
          rw [pScore_iff] at h ⊢
          refine ⟨⟨fun x hx => ?_, putTail_sorted c l r hp h.1.2⟩, ?_⟩
          · rcases putTail_mem c l r hp x hx with e | e
            · rw [e]; exact h1.2
            · exact h.1.1 x e
          · rw [putTail_length c l r hp]; have := h.2; omega
    · exact h
  · exact h
theorem pPut_mem {l : List Cu} {c x : Cu} (hx : x ∈ (pPut l c).1) : x = c ∨ x ∈ l := by
  unfold pPut at hx
  cases hp : putTail c l with
  | none => rw [hp] at hx; exact .inr hx
  | some r => rw [hp] at hx; exact putTail_mem c l r hp x hx
theorem pAdd_mem {l : List Cu} {c x : Cu} (hx : x ∈ (pAdd l c).1) : x = c ∨ x ∈ l := by
  unfold pAdd at hx
  split at hx
  · split at hx
    · split at hx
      · exact .inr hx
      · exact pPut_mem hx
    · exact .inr hx
  · exact .inr hx
theorem spec_l7Put_j2 (pre suf : List Cu) (b : Bool) (c : Cu) (hl : (pre ++ suf).length < 1099511627776) :
    Ev (fun k => spec_l7Put.j2 k (pre ++ suf) (pre.length : Int) b c.f0 c.f1 c.f2 c.f3) (if b = true then (pre ++ suf, false) else (pre ++ c :: suf, true)) := by
  refine ev_succ ?_
  have hl2 := hl
  rw [List.length_append] at hl2
  cases b
  · simp only [spec_l7Put.j2, Bool.false_eq_true, if_false, if_pos (nn _), if_pos (show (pre.length : Int) ≤ ((pre.length + suf.length : Nat) : Int) by omega), Int.toNat_natCast, List.take_left, List.drop_left, spec_l7Copies_eq pre (by omega), Option.bind_some, List.length_cons, List.length_nil, List.length_append, if_pos (show pre.length + (0 + 1) < 3518437208883 by omega), if_pos (show pre.length + (0 + 1) + suf.length < 3518437208883 by omega)]
    simpa using Ev.now (pre ++ c :: suf, true)
  · simp only [spec_l7Put.j2, if_true, spec_l7Copies_eq _ hl, Option.bind_some]
    exact Ev.now _
theorem spec_l7Put_l0 (c : Cu) : ∀ (suf pre : List Cu), (pre ++ suf).length < 1099511627776 →
    Ev (fun k => spec_l7Put.l0 k (pre ++ suf) (pre.length : Int) c.f0 c.f1 c.f2 c.f3) (match putTail c suf with | none => (pre ++ suf, false) | some r => (pre ++ r, true)) := by
  intro suf
  induction suf with
  | nil =>
    intro pre hl
    refine ev_succ ?_
    simp only [spec_l7Put.l0, if_neg (ixn (l := pre ++ []) (pre := pre) rfl), putTail]
    refine ev_succ ?_
    simp only [spec_l7Put.j1, if_neg (ixn (l := pre ++ []) (pre := pre) rfl)]
    have := spec_l7Put_j2 pre [] false c hl
    simpa using this
  | cons a t ih =>
    intro pre hl
    obtain ⟨h1, h2, h3, h4⟩ := ix (l := pre ++ a :: t) rfl (by omega)
    refine ev_succ ?_
    simp only [spec_l7Put.l0, if_pos h1, if_pos (nn _), Int.toNat_natCast, rd_T42, h2, h3]
    refine Ev.bind (spec_CompareCues_ev _ _ _ _ _ _ _ _) ?_
    change Ev (fun k => if cCmp a c < 0 then _ else _) _
    rw [putTail]
    refine ev_ite (fun d => ?_) (fun d => ?_)
    · rw [if_pos d]
      have := ih (pre ++ [a]) (by simpa using hl)
      rw [← app1] at this
      cases hp : putTail c t with
      | none => rw [hp] at this; exact this
      | some r => rw [hp] at this; simpa using this
    · rw [if_neg d]
      refine ev_succ ?_
      simp only [spec_l7Put.j1, if_pos h1, if_pos (nn _), Int.toNat_natCast, rd_T42, h2, h3]
      refine Ev.bind (spec_CompareCues_ev _ _ _ _ _ _ _ _) ?_
      change Ev (fun k => spec_l7Put.j2 k (pre ++ a :: t) (pre.length : Int) (cCmp a c == 0) c.f0 c.f1 c.f2 c.f3) _
      have := spec_l7Put_j2 pre (a :: t) (cCmp a c == 0) c hl
      by_cases e : cCmp a c = 0
      · rw [if_pos e]; rw [if_pos (by simpa using e)] at this; exact this
      · rw [if_neg e]; rw [if_neg (by simpa using e)] at this; exact this
theorem spec_l7Put_ev (l : List Cu) (c : Cu) (hl : l.length < 1099511627776) : Ev (fun k => spec_l7Put.f k l c.f0 c.f1 c.f2 c.f3) (pPut l c) := by
  have := spec_l7Put_l0 c l [] (by simpa using hl)
  unfold pPut
  cases hp : putTail c l with
  | none => rw [hp] at this; exact this
  | some r => rw [hp] at this; exact this
theorem spec_AddCue_ev (l : List Cu) (c : Cu) (hl : l.length < 1099511627776) (hz : szN l) (hc : c.f1.size ≤ 9223372036854775807) : Ev (fun k => spec_AddCue.f k l c.f0 c.f1 c.f2 c.f3) (pAdd l c) := by
  unfold spec_AddCue.f
  refine Ev.bind (spec_l7Put_ev l c hl) ?_
  refine Ev.bind (spec_IsScore_ev l hl hz) ?_
  simp only [spec_l7Copies_eq l hl, Option.bind_some, pAdd]
  refine ev_ite (fun h => ?_) (fun h => ?_)
  · refine Ev.bind (spec_IsCue_ev _ _ _ _ hc) ?_
    change Ev (fun k => if cOk c = true then _ else _) _
    refine ev_ite (fun h2 => ?_) (fun h2 => ?_)
    · have hh : (pScore l && cOk c) = true := by rw [h, h2]; rfl
      rw [if_pos hh]
      refine ev_ite (fun h3 => ?_) (fun h3 => ?_)
      · rw [if_pos h3]
        refine ev_ite (fun h4 => ?_) (fun h4 => ?_)
        · rw [if_pos h4]; exact Ev.now _
        · rw [if_neg h4]; exact Ev.now _
      · rw [if_neg h3]; exact Ev.now _
    · have hh : ¬ (pScore l && cOk c) = true := by rw [Bool.and_eq_true]; exact fun e => h2 e.2
      rw [if_neg hh]; exact Ev.now _
  · have hh : ¬ (pScore l && cOk c) = true := by rw [Bool.and_eq_true]; exact fun e => h e.1
    rw [if_neg hh]; exact Ev.now _
theorem l1Str_ok (b : List Int) (i h : Int) (l : List ByteArray) (hb : b.length < 1099511627776) (hi : 0 ≤ i) (hl : l ≠ []) : ∃ r i' h', spec_l1Str.f b i h l = some (r, i', h') ∧ 0 ≤ i' ∧ r ∈ l := by
  obtain ⟨r, i', h', e, hi', h0, h1⟩ := l1Below_ok b i h (l.length : Int) hb hi
  have hp : 0 < l.length := List.length_pos_iff.2 hl
  unfold spec_l1Str.f
  rw [e]; simp only [Option.bind_some]
  have hlt : r < (l.length : Int) := by omega
  rw [if_pos h0, if_pos hlt]
  refine ⟨_, _, _, rfl, hi', ?_⟩
  have h2 : r.toNat < l.length := by omega
  simp only [rdOf, List.getD_eq_getElem?_getD, List.getElem?_eq_getElem h2, Option.getD_some]
  exact List.getElem_mem _
def nmL : List ByteArray := [(⟨#[97]⟩ : ByteArray), (⟨#[97]⟩ : ByteArray), (⟨#[98]⟩ : ByteArray), (⟨#[99]⟩ : ByteArray), (⟨#[114]⟩ : ByteArray), (⟨#[110, 111]⟩ : ByteArray)]
theorem nmL_size : ∀ x ∈ nmL, x.size ≤ 9223372036854775807 := by
  intro x hx
  simp only [nmL, List.mem_cons, List.not_mem_nil, or_false] at hx
  rcases hx with h | h | h | h | h | h <;> subst h <;> decide
theorem l7Name_ok (b : List Int) (i h : Int) (hb : b.length < 1099511627776) (hi : 0 ≤ i) : ∃ r i' h', spec_l7Name.f b i h = some (r, i', h') ∧ 0 ≤ i' ∧ r ∈ nmL := by
  obtain ⟨r, i', h', e, hi', hr⟩ := l1Str_ok b i h nmL hb hi (by simp [nmL])
  unfold spec_l7Name.f
  change ∃ r i' h', ((spec_l1Str.f b i h nmL).bind fun bt => some (bt.1, bt.2.1, bt.2.2)) = _ ∧ _
  rw [e]
  exact ⟨_, _, _, rfl, hi', hr⟩
theorem l7Cue_ok (b : List Int) (i h : Int) (hb : b.length < 1099511627776) (hi : 0 ≤ i) : ∃ t n v r i' h', spec_l7Cue.f b i h = some (t, n, v, r, i', h') ∧ 0 ≤ i' ∧ n ∈ nmL ∧ t < 14 := by
  obtain ⟨t, i1, h1, e1, hi1, _, ht⟩ := l1Below_ok b i h 14 hb hi
  obtain ⟨n, i2, h2, e2, hi2, hn⟩ := l7Name_ok b i1 h1 hb hi1
  obtain ⟨v, i3, h3, e3, hi3, _⟩ := l1Below_ok b i2 h2 33 hb hi2
  obtain ⟨r, i4, h4, e4, hi4, _⟩ := l1Int_ok b i3 h3 [0, 0, 1, 2, 3, 5, 8, 16] hb hi3 (by simp)
  unfold spec_l7Cue.f
  simp only [e1, e2, e3, e4, Option.bind_some]
  exact ⟨_, _, _, _, _, _, rfl, hi4, hn, by omega⟩
/-- A drawn score. -/
def dScore (l : List Cu) : Prop := pScore l = true ∧ ∀ c ∈ l, c.f1 ∈ nmL ∧ c.f0 < 14
theorem dScore_sz {l : List Cu} (h : dScore l) : szN l := fun c hc => nmL_size _ (h.2 c hc).1
theorem dScore_len {l : List Cu} (h : dScore l) : l.length < 1099511627776 := by have := pScore_len h.1; omega
theorem dScore_nil : dScore [] := ⟨rfl, fun c hc => by cases hc⟩
theorem l7Draw_l0 (b : List Int) (hb : b.length < 1099511627776) : ∀ (n : Nat) (l : List Cu) (i h : Int), (n : Int) < 1099511627776 → 0 ≤ i → dScore l →
    ∃ r i' h', Ev (fun k => spec_l7Draw.l0 k l (n : Int) b i h) (r, i', h') ∧ 0 ≤ i' ∧ dScore r := by
  intro n
  induction n with
  | zero =>
    intro l i h _ hi hl
    refine ⟨l, i, h, ev_succ ?_, hi, hl⟩
    simp only [spec_l7Draw.l0, if_neg (show ¬ (((0 : Nat) : Int) > 0) by omega)]
    exact Ev.now _
  | succ n ih =>
    intro l i h hn hi hl
    obtain ⟨t, m, v, q, i1, h1, e1, hi1, hm, ht14⟩ := l7Cue_ok b i h hb hi
    have hd : dScore (pAdd l ⟨t, m, v, q⟩).1 := ⟨pAdd_score hl.1 _, fun c hc => by
      rcases pAdd_mem hc with h | h
      · rw [h]; exact ⟨hm, ht14⟩
      · exact hl.2 c h⟩
    obtain ⟨r, i', h', e, hi', hr⟩ := ih (pAdd l ⟨t, m, v, q⟩).1 i1 h1 (by omega) hi1 hd
    refine ⟨r, i', h', ev_succ ?_, hi', hr⟩
    simp only [spec_l7Draw.l0, if_pos (show (((n + 1 : Nat) : Int) > 0) by omega), e1, Option.bind_some]
    refine Ev.bind (spec_AddCue_ev l ⟨t, m, v, q⟩ (dScore_len hl) (dScore_sz hl) (nmL_size _ hm)) ?_
    rw [show wrap64 (((n + 1 : Nat) : Int) - 1) = (n : Int) by unfold wrap64; omega]
    exact e
theorem l7Draw_ok (b : List Int) (i h n : Int) (hb : b.length < 1099511627776) (hi : 0 ≤ i) (hn : 0 ≤ n) (hn2 : n < 1000) : ∃ r i' h', Ev (fun k => spec_l7Draw.f k b i h n) (r, i', h') ∧ 0 ≤ i' ∧ dScore r := by
  have hw : wrap64 (n + 1) = n + 1 := by unfold wrap64; omega
  obtain ⟨c, i1, h1, e1, hi1, hc0, hc1⟩ := l1Below_ok b i h (n + 1) hb hi
  obtain ⟨m, rfl⟩ := Int.eq_ofNat_of_zero_le hc0
  obtain ⟨r, i', h', e, hi', hr⟩ := l7Draw_l0 b hb m [] i1 h1 (by omega) hi1 dScore_nil
  refine ⟨r, i', h', ?_, hi', hr⟩
  simp only [spec_l7Draw.f, hw, e1, Option.bind_some]
  exact e
theorem DrawScore_ok (b : List Int) (hb : b.length < 1099511627776) : ∃ l n, Ev (fun k => spec_DrawScore.f k b) (l, n) ∧ dScore l ∧ n ∈ nmL := by
  obtain ⟨h0, e0⟩ := l1New_ev b hb
  obtain ⟨l, i1, h1, e1, hi1, hl⟩ := l7Draw_ok b 0 h0 7 hb (by omega) (by omega) (by omega)
  obtain ⟨n, i2, h2, e2, hi2, hn⟩ := l7Name_ok b i1 h1 hb hi1
  refine ⟨l, n, ?_, hl, hn⟩
  unfold spec_DrawScore.f
  refine Ev.bind e0 ?_
  refine Ev.bind e1 ?_
  simp only [e2, Option.bind_some]
  exact Ev.now _
theorem DrawScore_ticks (b : List Int) (hb : b.length < 1099511627776) : ∃ l n, Ev (fun k => spec_DrawScore.f k b) (l, n) ∧ dScore l ∧ n ∈ nmL ∧ ∀ c ∈ l, c.f0 < 14 := by
  obtain ⟨l, n, e, hl, hn⟩ := DrawScore_ok b hb
  exact ⟨l, n, e, hl, hn, fun c hc => (hl.2 c hc).2⟩
theorem laws_cues_l0 (x : List Cu) (hl : x.length < 1099511627776) : ∀ (d i : Nat), i + d = x.length → Ev (fun k => laws_cues.l0 k x x (i : Int)) true := by
  intro d
  induction d with
  | zero =>
    intro i h
    refine ev_succ ?_
    simp only [laws_cues.l0, if_neg (show ¬ ((i : Int) < (x.length : Int)) by omega)]
    exact Ev.now _
  | succ d ih =>
    intro i h
    refine ev_succ ?_
    simp only [laws_cues.l0, if_pos (show ((i : Int) < (x.length : Int)) by omega), if_pos (nn _), beq_self_eq_true, Bool.not_true, Bool.or_false, Bool.false_eq_true, if_false]
    rw [show wrap64 ((i : Int) + 1) = ((i + 1 : Nat) : Int) by unfold wrap64; omega]
    exact ih (i + 1) (by omega)
theorem laws_cues_rfl (x : List Cu) (hl : x.length < 1099511627776) : Ev (fun k => laws_cues.f k x x) true := by
  simp only [laws_cues.f, if_true]
  exact laws_cues_l0 x hl x.length 0 (by omega)
theorem l1Word_ok (b : List Int) (i h : Int) (hb : b.length < 1099511627776) (hi : 0 ≤ i) : ∃ r i' h', spec_l1Word.f b i h = some (r, i', h') ∧ 0 ≤ i' ∧ r.size ≤ 1000 := by
  have key : ∀ L : List ByteArray, L ≠ [] → (∀ x ∈ L, x.size ≤ 1000) → ∃ r i' h', ((spec_l1Str.f b i h L).bind fun bt => some (bt.1, bt.2.1, bt.2.2)) = some (r, i', h') ∧ 0 ≤ i' ∧ r.size ≤ 1000 := by
    intro L h1 h2
    obtain ⟨r, i', h', e, hi', hr⟩ := l1Str_ok b i h L hb hi h1
    exact ⟨r, i', h', by rw [e]; rfl, hi', h2 r hr⟩
  exact key _ (by simp) (by decide)
theorem l7Any_ok (b : List Int) (i h : Int) (hb : b.length < 1099511627776) (hi : 0 ≤ i) : ∃ t n v r i' h', spec_l7Any.f b i h = some (t, n, v, r, i', h') ∧ 0 ≤ i' ∧ n.size ≤ 9223372036854775807 := by
  obtain ⟨t, n, v, r, i1, h1, e1, hi1, hn, _⟩ := l7Cue_ok b i h hb hi
  have hns := nmL_size n hn
  obtain ⟨x, i2, h2, e2, hi2, _⟩ := l1Below_ok b i1 h1 12 hb hi1
  unfold spec_l7Any.f
  simp only [e1, e2, Option.bind_some]
  split
  · obtain ⟨y, i3, h3, e3, hi3⟩ := l1Odd_ok b i2 h2 hb hi2
    simp only [e3, Option.bind_some]
    exact ⟨_, _, _, _, _, _, rfl, hi3, hns⟩
  · split
    · obtain ⟨y, i3, h3, e3, hi3, hy⟩ := l1Word_ok b i2 h2 hb hi2
      simp only [e3, Option.bind_some]
      exact ⟨_, _, _, _, _, _, rfl, hi3, by omega⟩
    · split
      · obtain ⟨y, i3, h3, e3, hi3, _⟩ := l1Int_ok b i2 h2 [(-1), 32, 33, 1000] hb hi2 (by simp)
        simp only [e3, Option.bind_some]
        exact ⟨_, _, _, _, _, _, rfl, hi3, hns⟩
      · split
        · obtain ⟨y, i3, h3, e3, hi3⟩ := l1Odd_ok b i2 h2 hb hi2
          simp only [e3, Option.bind_some]
          exact ⟨_, _, _, _, _, _, rfl, hi3, hns⟩
        · exact ⟨_, _, _, _, _, _, rfl, hi2, hns⟩
theorem l7List_l0 (b : List Int) (hb : b.length < 1099511627776) : ∀ (d : Nat) (l : List Cu) (j i h : Int), l.length + d = 13 → 0 ≤ i → szN l →
    ∃ r i' h', Ev (fun k => spec_l7List.l0 k l j b i h) (r, i', h') ∧ 0 ≤ i' ∧ r.length ≤ 20 ∧ szN r := by
  intro d
  induction d with
  | zero =>
    intro l j i h hl hi hz
    obtain ⟨x, i1, h1, e1, hi1, hx⟩ := l1Int_ok b i h [12, 13] hb hi (by simp)
    have hx' : x = 12 ∨ x = 13 := by simpa using hx
    refine ⟨l.take x.toNat, i1, h1, ev_succ ?_, hi1, by rw [List.length_take]; omega, fun c hc => hz c (List.mem_of_mem_take hc)⟩
    simp only [spec_l7List.l0, if_neg (show ¬ ((l.length : Int) < 13) by omega), e1, Option.bind_some, if_pos (show 0 ≤ x by omega), if_pos (show x ≤ (l.length : Int) by omega)]
    exact Ev.now _
  | succ d ih =>
    intro l j i h hl hi hz
    obtain ⟨r, i', h', e, hi', hr, hrz⟩ := ih (l ++ [⟨wrap64 (30 + j), (⟨#[97]⟩ : ByteArray), j, 0⟩]) (wrap64 (j + 1)) i h (by simp; omega) hi (fun c hc => by
      rcases List.mem_append.1 hc with hc | hc
      · exact hz c hc
      · rw [List.mem_singleton.1 hc]; show (1 : Nat) ≤ _; omega)
    refine ⟨r, i', h', ev_succ ?_, hi', hr, hrz⟩
    simp only [spec_l7List.l0, if_pos (show (l.length : Int) < 13 by omega), if_pos (show l.length < 3518437208883 by omega)]
    exact e
theorem l7List_ok (b : List Int) (i h : Int) (hb : b.length < 1099511627776) (hi : 0 ≤ i) : ∃ r i' h', Ev (fun k => spec_l7List.f k b i h) (r, i', h') ∧ 0 ≤ i' ∧ r.length ≤ 20 ∧ szN r := by
  obtain ⟨l, i1, h1, e1, hi1, hd⟩ := l7Draw_ok b i h 7 hb hi (by omega) (by omega)
  obtain ⟨x, i2, h2, e2, hi2, _⟩ := l1Below_ok b i1 h1 14 hb hi1
  have hl := pScore_len hd.1
  have hz := dScore_sz hd
  by_cases x0 : x = 0
  · obtain ⟨t, n, v, r, i3, h3, e3, hi3, hn⟩ := l7Any_ok b i2 h2 hb hi2
    refine ⟨l ++ [⟨t, n, v, r⟩], i3, h3, ?_, hi3, by simp; omega, fun c hc => ?_⟩
    · unfold spec_l7List.f
      refine Ev.bind e1 ?_
      simp only [e2, Option.bind_some, if_pos x0, e3, if_pos (show l.length < 3518437208883 by omega)]
      exact Ev.now _
    · rcases List.mem_append.1 hc with hc | hc
      · exact hz c hc
      · rw [List.mem_singleton.1 hc]; exact hn
  · by_cases x1 : x = 1
    · obtain ⟨r, i3, h3, e3, hi3, hr, hrz⟩ := l7List_l0 b hb (13 - l.length) l 0 i2 h2 (by omega) hi2 hz
      refine ⟨r, i3, h3, ?_, hi3, hr, hrz⟩
      unfold spec_l7List.f
      refine Ev.bind e1 ?_
      simp only [e2, Option.bind_some, if_neg x0, if_pos x1]
      exact e3
    · refine ⟨l, i2, h2, ?_, hi2, by omega, hz⟩
      unfold spec_l7List.f
      refine Ev.bind e1 ?_
      simp only [e2, Option.bind_some, if_neg x0, if_neg x1]
      exact Ev.now _
/-- Two cues that are not at one tick with one name. -/
def kne (a b : Cu) : Prop := ¬ (a.f0 = b.f0 ∧ a.f1.toList = b.f1.toList)
theorem kne_symm {a b : Cu} (h : kne a b) : kne b a := fun e => h ⟨e.1.symm, e.2.symm⟩
def strict (l : List Cu) : Prop := l.Pairwise (fun a b => cLt a b = true)
theorem cLt_kne {a b : Cu} (h : cLt a b = true) : kne a b := by
  rintro ⟨h1, h2⟩
  rcases (cLt_iff a b).1 h with k | ⟨_, k⟩
  · omega
  · rw [h2, bl_irrefl] at k; cases k
theorem cLt_asym {a b : Cu} (h : cLt a b = true) : ¬ cLt b a = true := fun h' => by
  have := cLt_kne (cLt_trans h h')
  exact this ⟨rfl, rfl⟩
theorem cLt_total {a b : Cu} (h : ¬ cLt b a = true) (k : kne a b) : cLt a b = true := by
  rw [cLt_iff] at *
  by_cases h1 : a.f0 < b.f0
  · exact .inl h1
  · by_cases h2 : b.f0 < a.f0
    · exact absurd (.inl h2) h
    · have e : a.f0 = b.f0 := by omega
      refine .inr ⟨e, ?_⟩
      cases hb : Op.bytesLess a.f1.toList b.f1.toList
      · cases hc : Op.bytesLess b.f1.toList a.f1.toList
        · exact absurd ⟨e, bl_tri _ _ hb hc⟩ k
        · exact absurd (.inr ⟨e.symm, hc⟩) h
      · rfl
theorem strict_kne {l : List Cu} (h : strict l) : l.Pairwise kne := h.imp (fun hab => cLt_kne hab)
/-- One strict order of the same cues. -/
theorem strict_uniq : ∀ (l m : List Cu), strict l → strict m → l.Perm m → l = m
  | [], m, _, _, h => (List.nil_perm.1 h).symm
  | a :: t, [], _, _, h => by simpa using h.length_eq
  | a :: t, b :: s, hl, hm, h => by
    obtain ⟨l1, l2⟩ := List.pairwise_cons.1 hl
    obtain ⟨m1, m2⟩ := List.pairwise_cons.1 hm
    have e : a = b := by
      have ha : a ∈ b :: s := h.subset (by simp)
      have hb : b ∈ a :: t := h.symm.subset (by simp)
      rcases List.mem_cons.1 ha with e | ha
      · exact e
      · rcases List.mem_cons.1 hb with e | hb
        · exact e.symm
        · exact absurd (m1 a ha) (cLt_asym (l1 b hb))
    subst e
    rw [strict_uniq t s l2 m2 (List.Perm.cons_inv h)]
theorem putTail_perm (c : Cu) : ∀ (l r : List Cu), putTail c l = some r → r.Perm (c :: l)
  | [], r, h => by cases h; exact List.Perm.refl _
  | d :: t, r, h => by
    unfold putTail at h
    split at h
    · cases ht : putTail c t with
      | none => rw [ht] at h; cases h
      | some r' => rw [ht] at h; cases h; exact (List.Perm.cons d (putTail_perm c t r' ht)).trans (List.Perm.swap c d t)
    · split at h
      · cases h
      · cases h; exact List.Perm.refl _
theorem putTail_fails (c : Cu) : ∀ (l : List Cu), putTail c l = none → ∃ d ∈ l, ¬ kne d c
  | [], h => by cases h
  | d :: t, h => by
    unfold putTail at h
    rcases cCmp_cases d c with ⟨k, _⟩ | ⟨k, k1, k2⟩ | ⟨k, _⟩
    · rw [if_pos k] at h
      have ht : putTail c t = none := by
        cases ht : putTail c t with
        | none => rfl
        | some r => rw [ht] at h; cases h
      obtain ⟨x, hx, e⟩ := putTail_fails c t ht
      exact ⟨x, by simp [hx], e⟩
    · exact ⟨d, by simp, fun n => n ⟨k1, k2⟩⟩
    · rw [if_neg (by omega), if_neg (by omega)] at h; cases h
theorem sortRow_perm (l : List Cu) : (sortRow l).Perm l := by
  have h := (sortRow_sorts l).1.2.2
  have e1 : (sortRow l).toArray.extract 0 l.toArray.size = (sortRow l).toArray := by
    have hh : l.toArray.size = (sortRow l).toArray.size := by simp [sortRow_len]
    rw [hh]; exact Array.extract_size
  have e2 : l.toArray.extract 0 l.toArray.size = l.toArray := Array.extract_size
  rw [e1, e2] at h
  exact h
theorem sortRow_weak (l : List Cu) : (sortRow l).Pairwise (fun a b => ¬ cLt b a = true) := by
  have h := (sortRow_sorts l).2
  rw [List.pairwise_iff_getElem]
  intro i j hi hj hij
  have hn := sortRow_len l
  have := h i j (Nat.zero_le _) hij (by rw [List.size_toArray]; omega)
  rw [getElem!_pos (sortRow l).toArray j (by rw [List.size_toArray]; exact hj), getElem!_pos (sortRow l).toArray i (by rw [List.size_toArray]; exact hi), List.getElem_toArray, List.getElem_toArray] at this
  intro k
  rw [cLt_iff] at k
  have := Bool.eq_false_iff.1 this
  exact this ((cfC_lt _ _).2 k)
theorem sortRow_strict {l : List Cu} (h : l.Pairwise kne) : strict (sortRow l) := by
  have h2 : (sortRow l).Pairwise kne := (List.Perm.pairwise_iff (fun hab => kne_symm hab) (sortRow_perm l)).2 h
  exact (sortRow_weak l).imp₂ (fun a b hw hk => cLt_total hw hk) h2
/-- MergeScores -/
def pMerge (a b : List Cu) : List Cu × Bool := if pScore a = true then (if pScore b = true then (if pScore (sortRow (a ++ b)) = true then (sortRow (a ++ b), true) else ([], false)) else ([], false)) else ([], false)
theorem pMerge_len (a b : List Cu) : (pMerge a b).1.length ≤ 12 := by
  unfold pMerge
  split
  · split
    · split
      · rename_i h; exact pScore_len h
      · simp
    · simp
  · simp
theorem impl_MergeScores_ev (a b : List Cu) (hl : a.length + b.length ≤ 4000000) (hza : szN a) (hzb : szN b) : Ev (fun k => impl_MergeScores.f k a b) (pMerge a b) := by
  simp only [impl_MergeScores.f, if_pos hl, pMerge]
  have hzs : szN (sortRow (a ++ b)) := fun c hc => by
    rcases List.mem_append.1 ((sortRow_perm (a ++ b)).subset hc) with h | h
    · exact hza c h
    · exact hzb c h
  refine Ev.bind (impl_IsScore_ev a (by omega) hza) ?_
  refine ev_ite (fun c => ?_) (fun c => ?_)
  · rw [if_pos c]
    refine Ev.bind (impl_IsScore_ev b (by omega) hzb) ?_
    refine ev_ite (fun c2 => ?_) (fun c2 => ?_)
    · rw [if_pos c2]
      refine Ev.bind (impl_IsScore_ev _ (by rw [sortRow_len, List.length_append]; omega) hzs) ?_
      refine ev_ite (fun c3 => ?_) (fun c3 => ?_)
      · rw [if_pos c3]; exact Ev.now _
      · rw [if_neg c3]; exact Ev.now _
    · rw [if_neg c2]; exact Ev.now _
  · rw [if_neg c]; exact Ev.now _
theorem DrawMerge_ok (b : List Int) (hb : b.length < 1099511627776) : ∃ (p q : List Cu), Ev (fun k => spec_DrawMergeScores.f k b) (p, q) ∧ p.length ≤ 20 ∧ szN p ∧ q.length ≤ 20 ∧ szN q := by
  obtain ⟨h0, e0⟩ := l1New_ev b hb
  obtain ⟨p, i1, h1, e1, hi1, hp, hpz⟩ := l7List_ok b 0 h0 hb (by omega)
  obtain ⟨q, i2, h2, e2, hi2, hq, hqz⟩ := l7List_ok b i1 h1 hb hi1
  refine ⟨p, q, ?_, hp, hpz, hq, hqz⟩
  unfold spec_DrawMergeScores.f
  refine Ev.bind e0 ?_
  refine Ev.bind e1 ?_
  refine Ev.bind e2 ?_
  exact Ev.now _
theorem pMerge_id {l a b : List Cu} (hl : pScore l = true) (ha : pScore a = true) (hb : pScore b = true) (hp : (a ++ b).Perm l) : pMerge a b = (l, true) := by
  have hs : strict l := ((pScore_iff l).1 hl).1.2
  have hk : (a ++ b).Pairwise kne := (List.Perm.pairwise_iff (fun hab => kne_symm hab) hp).2 (strict_kne hs)
  have e : sortRow (a ++ b) = l := strict_uniq _ _ (sortRow_strict hk) hs ((sortRow_perm _).trans hp)
  rw [pMerge, if_pos ha, if_pos hb, e, if_pos hl]
theorem pMerge_swap (p q : List Cu) : pMerge p q = pMerge q p := by
  have hpq : (p ++ q).Perm (q ++ p) := List.perm_append_comm
  unfold pMerge
  by_cases hp : pScore p = true
  · by_cases hq : pScore q = true
    · rw [if_pos hp, if_pos hq, if_pos hq, if_pos hp]
      by_cases hk : (p ++ q).Pairwise kne
      · have hk2 : (q ++ p).Pairwise kne := (List.Perm.pairwise_iff (fun hab => kne_symm hab) hpq).1 hk
        have e : sortRow (p ++ q) = sortRow (q ++ p) := strict_uniq _ _ (sortRow_strict hk) (sortRow_strict hk2) (((sortRow_perm _).trans hpq).trans (sortRow_perm _).symm)
        rw [e]
      · have h1 : ¬ pScore (sortRow (p ++ q)) = true := fun h => hk ((List.Perm.pairwise_iff (fun hab => kne_symm hab) (sortRow_perm _)).1 (strict_kne ((pScore_iff _).1 h).1.2))
        have h2 : ¬ pScore (sortRow (q ++ p)) = true := fun h => hk ((List.Perm.pairwise_iff (fun hab => kne_symm hab) ((sortRow_perm _).trans hpq.symm)).1 (strict_kne ((pScore_iff _).1 h).1.2))
        rw [if_neg h1, if_neg h2]
    · rw [if_neg hq, if_neg hq]
      split <;> rfl
  · rw [if_neg hp, if_neg hp]
    split <;> rfl
theorem pMerge_true {p q : List Cu} (h : (pMerge p q).2 = true) : pScore (pMerge p q).1 = true ∧ (pMerge p q).1.length = p.length + q.length := by
  unfold pMerge at h ⊢
  by_cases hp : pScore p = true
  · by_cases hq : pScore q = true
    · rw [if_pos hp, if_pos hq] at h ⊢
      by_cases hs : pScore (sortRow (p ++ q)) = true
      · rw [if_pos hs]; exact ⟨hs, by rw [sortRow_len, List.length_append]⟩
      · rw [if_neg hs] at h; cases h
    · rw [if_pos hp, if_neg hq] at h; cases h
  · rw [if_neg hp] at h; cases h
theorem pMerge_sz {p q : List Cu} (hp : szN p) (hq : szN q) : szN (pMerge p q).1 := by
  have hs : szN (sortRow (p ++ q)) := fun c hc => by
    rcases List.mem_append.1 ((sortRow_perm (p ++ q)).subset hc) with h | h
    · exact hp c h
    · exact hq c h
  have hn : szN ([] : List Cu) := fun c hc => by cases hc
  unfold pMerge
  split
  · split
    · split
      · exact hs
      · exact hn
    · exact hn
  · exact hn
theorem FnMerged : laws_FnMerged.Pure := by
  intro bs _ hb' _
  refine Ev.rounds ?_
  simp only [laws_FnMerged.f, laws_big_eq, Option.bind_some, decide_eq_true_eq]
  refine ev_ite (fun _ => Ev.now _) (fun h => ?_)
  have hb : bs.length < 1099511627776 := by omega
  obtain ⟨l, n, e, hl, hn⟩ := DrawScore_ok bs hb
  refine Ev.bind e ?_
  have hlen := dScore_len hl
  have hsz := dScore_sz hl
  refine Ev.bind (impl_OnlyNames_ev l [(⟨#[97]⟩ : ByteArray), (⟨#[99]⟩ : ByteArray)] hlen hsz (by simp)) ?_
  refine Ev.bind (impl_OnlyNames_ev l [(⟨#[98]⟩ : ByteArray), (⟨#[114]⟩ : ByteArray), (⟨#[110, 111]⟩ : ByteArray)] hlen hsz (by simp)) ?_
  have ea : pOnly l [(⟨#[97]⟩ : ByteArray), (⟨#[99]⟩ : ByteArray)] = l.filter (fun c => pHas [(⟨#[97]⟩ : ByteArray), (⟨#[99]⟩ : ByteArray)] c.f1) := by rw [pOnly, if_pos hl.1]
  have eb : pOnly l [(⟨#[98]⟩ : ByteArray), (⟨#[114]⟩ : ByteArray), (⟨#[110, 111]⟩ : ByteArray)] = l.filter (fun c => !pHas [(⟨#[97]⟩ : ByteArray), (⟨#[99]⟩ : ByteArray)] c.f1) := by
    rw [pOnly, if_pos hl.1]
    refine List.filter_congr (fun c hc => ?_)
    have := (hl.2 c hc).1
    simp only [nmL, List.mem_cons, List.not_mem_nil, or_false] at this
    have ta : (⟨#[97]⟩ : ByteArray).toList = [97] := by simp [ByteArray.toList, ByteArray.toList.loop, ByteArray.size, ByteArray.get!]
    have tb : (⟨#[98]⟩ : ByteArray).toList = [98] := by simp [ByteArray.toList, ByteArray.toList.loop, ByteArray.size, ByteArray.get!]
    have tc : (⟨#[99]⟩ : ByteArray).toList = [99] := by simp [ByteArray.toList, ByteArray.toList.loop, ByteArray.size, ByteArray.get!]
    have tr : (⟨#[114]⟩ : ByteArray).toList = [114] := by simp [ByteArray.toList, ByteArray.toList.loop, ByteArray.size, ByteArray.get!]
    have tn : (⟨#[110, 111]⟩ : ByteArray).toList = [110, 111] := by simp [ByteArray.toList, ByteArray.toList.loop, ByteArray.size, ByteArray.get!]
    rcases this with h | h | h | h | h | h <;> rw [h] <;> simp [pHas, ta, tb, tc, tr, tn]
  rw [ea, eb]
  have ha1 := pScore_filter hl.1 (fun c => pHas [(⟨#[97]⟩ : ByteArray), (⟨#[99]⟩ : ByteArray)] c.f1)
  have hb1 := pScore_filter hl.1 (fun c => !pHas [(⟨#[97]⟩ : ByteArray), (⟨#[99]⟩ : ByteArray)] c.f1)
  have hperm := List.filter_append_perm (fun c : Cu => pHas [(⟨#[97]⟩ : ByteArray), (⟨#[99]⟩ : ByteArray)] c.f1) l
  have haz : szN (l.filter (fun c => pHas [(⟨#[97]⟩ : ByteArray), (⟨#[99]⟩ : ByteArray)] c.f1)) := fun c hc => hsz c (List.mem_filter.1 hc).1
  have hbz : szN (l.filter (fun c => !pHas [(⟨#[97]⟩ : ByteArray), (⟨#[99]⟩ : ByteArray)] c.f1)) := fun c hc => hsz c (List.mem_filter.1 hc).1
  generalize l.filter (fun c => pHas [(⟨#[97]⟩ : ByteArray), (⟨#[99]⟩ : ByteArray)] c.f1) = A at ha1 hperm haz ⊢
  generalize l.filter (fun c => !pHas [(⟨#[97]⟩ : ByteArray), (⟨#[99]⟩ : ByteArray)] c.f1) = B at hb1 hperm hbz ⊢
  have hA := pScore_len ha1
  have hB := pScore_len hb1
  have m1 := impl_MergeScores_ev A B (by omega) haz hbz
  have m2 := impl_MergeScores_ev B A (by omega) hbz haz
  rw [pMerge_id hl.1 ha1 hb1 hperm] at m1
  rw [pMerge_id hl.1 hb1 ha1 (List.perm_append_comm.trans hperm)] at m2
  refine Ev.bind m1 ?_
  refine Ev.bind m2 ?_
  simp only [if_true]
  refine Ev.bind (laws_cues_rfl l hlen) ?_
  simp only [if_true]
  refine Ev.bind (laws_cues_rfl l hlen) ?_
  refine ev_succ ?_
  simp only [laws_FnMerged.j0, Bool.not_true, Bool.false_eq_true, if_false]
  obtain ⟨p, q, ed, hp, hpz, hq, hqz⟩ := DrawMerge_ok bs hb
  refine Ev.bind ed ?_
  refine Ev.bind (impl_MergeScores_ev p q (by omega) hpz hqz) ?_
  have m4 := impl_MergeScores_ev q p (by omega) hqz hpz
  rw [← pMerge_swap p q] at m4
  refine Ev.bind m4 ?_
  simp only [beq_self_eq_true, if_true]
  have hml := pMerge_len p q
  have hmz := pMerge_sz hpz hqz
  have hmt := @pMerge_true p q
  generalize pMerge p q = m at hml hmz hmt ⊢
  refine Ev.bind (laws_cues_rfl m.1 (by omega)) ?_
  simp only [if_true]
  have hlev : Ev (fun k => (impl_LevelAt.f k l n 9).bind fun t417 => (impl_LevelAt.f k l n 9).bind fun t418 => some (t417 == t418)) true := by
    refine Ev.bind (impl_LevelAt_ev l n 9 hlen hsz) ?_
    refine Ev.bind (impl_LevelAt_ev l n 9 hlen hsz) ?_
    rw [beq_self_eq_true]
    exact Ev.now _
  refine ev_ite (fun hm => ?_) (fun hm => hlev)
  obtain ⟨hms, hmn⟩ := hmt hm
  refine Ev.bind (impl_IsScore_ev m.1 (by omega) hmz) ?_
  simp only [hms, if_true]
  exact ev_ite (fun _ => hlev) (fun hc => absurd (show (m.1.length : Int) = wrap64 ((p.length : Int) + (q.length : Int)) by unfold wrap64; omega) hc)

end Go.Proofs.Ytkljnmojnkiafaa.Pure
