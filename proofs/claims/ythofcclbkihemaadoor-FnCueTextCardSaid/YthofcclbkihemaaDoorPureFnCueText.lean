/- The law FnCueText comes to true for every input: cues are read from what is written, and only valid ones are written. (P7) No condition beside the statement's own. -/
import Derived.Test.YthofcclbkihemaaDoorStFnCueText
namespace Go.Proofs.YthofcclbkihemaaDoor.Pure
open Go Go.RowKit Go.Proofs.YthofcclbkihemaaDoor.MFnCueText Go.Proofs.YthofcclbkihemaaDoorW.PrintWords Go.Proofs.YthofcclbkihemaaDoorW.PrintLast Go.Proofs.YthofcclbkihemaaDoorW.PrintMore
set_option linter.unusedVariables false
set_option linter.unusedSimpArgs false

theorem ev_succ {α : Type} {g : Nat → Option α} {r : α} (h : Ev (fun k => g (k + 1)) r) : Ev g r := Ev.step (fun _ => rfl) h
theorem ev_ite {α : Type} {c : Prop} [Decidable c] {f g : Nat → Option α} {r : α} (h : c → Ev f r) (h' : ¬ c → Ev g r) : Ev (fun k => if c then f k else g k) r := by
  by_cases hc : c
  · simp only [if_pos hc]; exact h hc
  · simp only [if_neg hc]; exact h' hc
theorem ix {α : Type} {l pre t : List α} {a : α} (h : l = pre ++ a :: t) (hl : l.length < 4611686018427387904) :
    (pre.length : Int) < (l.length : Int) ∧ (∀ d, l.getD pre.length d = a) ∧ wrap64 ((pre.length : Int) + 1) = ((pre ++ [a]).length : Int) ∧ l = (pre ++ [a]) ++ t := by
  subst h
  simp only [List.length_append, List.length_cons, List.length_nil] at *
  refine ⟨by omega, fun d => by simp [List.getD], by unfold wrap64; omega, by simp⟩
theorem ixn {α : Type} {l pre : List α} (h : l = pre ++ []) : ¬ (pre.length : Int) < (l.length : Int) := by
  subst h; simp
theorem nn (n : Nat) : (0 : Int) ≤ (n : Int) := Int.natCast_nonneg n
theorem w64 {n : Int} (h0 : -9223372036854775808 ≤ n) (h1 : n < 9223372036854775808) : wrap64 n = n := by unfold wrap64; omega
theorem mn_min (a b : Int) : mn a b = min a b := by unfold mn; omega
theorem mx_max (a b : Int) : mx a b = max a b := by unfold mx; omega
theorem set_app {α : Type} (pre t : List α) (a b : α) : (pre ++ a :: t).set pre.length b = pre ++ b :: t := by simp
theorem app1 {α : Type} (pre : List α) (a : α) (t : List α) : pre ++ a :: t = (pre ++ [a]) ++ t := by simp

/-- The numbers from c on, n of them. -/
def upto : Nat → Int → List Int
  | 0, _ => []
  | n + 1, c => c :: upto n (c + 1)
theorem upto_length : ∀ n c, (upto n c).length = n
  | 0, _ => rfl
  | n + 1, c => by simp [upto, upto_length n]

theorem spec_l1In_eq (a b c : Int) : spec_l1In.f a b c = some (decide (b ≤ a) && decide (a ≤ c)) := by
  unfold spec_l1In.f; split <;> simp <;> omega
theorem impl_isWithin_eq (a b c : Int) : impl_isWithin.f a b c = some (decide (b ≤ a) && decide (a ≤ c)) := by
  unfold impl_isWithin.f; split <;> simp <;> omega
theorem and255 (x : Int) : 0 ≤ Go.bits .and .i64 x 255 ∧ Go.bits .and .i64 x 255 ≤ 255 := by
  have h : ((BitVec.ofInt 64 x) &&& (BitVec.ofInt 64 255)).toNat ≤ 255 := by
    rw [BitVec.toNat_and]
    refine Nat.le_trans Nat.and_le_right ?_
    decide
  have e : Go.bits .and .i64 x 255 = IntKind.i64.wrap (((BitVec.ofInt 64 x) &&& (BitVec.ofInt 64 255)).toNat : Int) := by
    rfl
  rw [e]
  generalize ((BitVec.ofInt 64 x) &&& (BitVec.ofInt 64 255)).toNat = m at h
  rw [IntKind.wrap_i64]; omega
theorem l1Byte_ok (b : List Int) (i h : Int) (hb : b.length < 1099511627776) (hi : 0 ≤ i) : ∃ r i' h', spec_l1Byte.f b i h = some (r, i', h') ∧ 0 ≤ i' ∧ 0 ≤ r ∧ r ≤ 255 := by
  unfold spec_l1Byte.f
  split
  · exact ⟨_, _, _, rfl, by unfold wrap64; omega, and255 _⟩
  · exact ⟨_, _, _, rfl, hi, and255 _⟩
theorem l1Below_ok (b : List Int) (i h n : Int) (hb : b.length < 1099511627776) (hi : 0 ≤ i) : ∃ r i' h', spec_l1Below.f b i h n = some (r, i', h') ∧ 0 ≤ i' ∧ 0 ≤ r ∧ (r < n ∨ n ≤ 0 ∧ r = 0) := by
  unfold spec_l1Below.f
  split
  · exact ⟨_, _, _, rfl, hi, by omega, by omega⟩
  · rename_i hn
    split
    · obtain ⟨r, i', h', e, hi', h0, h1⟩ := l1Byte_ok b i h hb hi
      rw [e]; simp only [Option.bind_some]
      rw [if_neg (by omega)]
      exact ⟨_, _, _, rfl, hi', Int.tmod_nonneg _ h0, .inl (Int.tmod_lt_of_pos _ (by omega))⟩
    · obtain ⟨r, i1, h1, e, hi1, h0, h255⟩ := l1Byte_ok b i h hb hi
      rw [e]; simp only [Option.bind_some]
      obtain ⟨r2, i2, h2, e2, hi2, h02, h2552⟩ := l1Byte_ok b i1 h1 hb hi1
      rw [e2]; simp only [Option.bind_some]
      obtain ⟨r3, i3, h3, e3, hi3, h03, h2553⟩ := l1Byte_ok b i2 h2 hb hi2
      rw [e3]; simp only [Option.bind_some]
      rw [if_neg (by omega)]
      refine ⟨_, _, _, rfl, hi3, Int.tmod_nonneg _ ?_, .inl (Int.tmod_lt_of_pos _ (by omega))⟩
      unfold wrap64; omega
theorem l1Once_ok (b : List Int) (i h n : Int) (hb : b.length < 1099511627776) (hi : 0 ≤ i) : ∃ r i' h', spec_l1Once.f b i h n = some (r, i', h') ∧ 0 ≤ i' := by
  obtain ⟨r, i', h', e, hi', h0, h1⟩ := l1Below_ok b i h n hb hi
  unfold spec_l1Once.f
  rw [e]; simp only [Option.bind_some]
  exact ⟨_, _, _, rfl, hi'⟩
theorem l1Int_ok (b : List Int) (i h : Int) (l : List Int) (hb : b.length < 1099511627776) (hi : 0 ≤ i) (hl : l ≠ []) : ∃ r i' h', spec_l1Int.f b i h l = some (r, i', h') ∧ 0 ≤ i' ∧ r ∈ l := by
  obtain ⟨r, i', h', e, hi', h0, h1⟩ := l1Below_ok b i h (l.length : Int) hb hi
  have hp : 0 < l.length := List.length_pos_iff.2 hl
  unfold spec_l1Int.f
  rw [e]; simp only [Option.bind_some]
  have hlt : r < (l.length : Int) := by omega
  rw [if_pos h0, if_pos hlt]
  refine ⟨_, _, _, rfl, hi', ?_⟩
  have h2 : r.toNat < l.length := by omega
  simp only [rd, List.getD_eq_getElem?_getD, List.getElem?_eq_getElem h2, Option.getD_some]
  exact List.getElem_mem _
theorem l1Odd_ok (b : List Int) (i h : Int) (hb : b.length < 1099511627776) (hi : 0 ≤ i) : ∃ r i' h', spec_l1Odd.f b i h = some (r, i', h') ∧ 0 ≤ i' := by
  unfold spec_l1Odd.f
  obtain ⟨r, i', h', e, hi', _⟩ := l1Int_ok b i h [(-1), 0, 1, 2, 3, 7, 8, 9, 15, 16, 17, 63, 64, 65, 999, 1000, 4096, 4097, 9223372036854775807, (-9223372036854775808)] hb hi (by simp)
  rw [e]; simp only [Option.bind_some]
  exact ⟨_, _, _, rfl, hi'⟩
theorem l1New_l0 (b : List Int) (hb : b.length < 1099511627776) : ∀ (d i : Nat) (h : Int), i + d = b.length → ∃ h', Ev (fun k => spec_l1New.l0 k b h (i : Int)) (b, 0, h') := by
  intro d
  induction d with
  | zero =>
    intro i h hd
    refine ⟨h, ev_succ ?_⟩
    simp only [spec_l1New.l0, if_neg (show ¬ ((i : Int) < (b.length : Int)) by omega)]
    exact Ev.now _
  | succ d ih =>
    intro i h hd
    by_cases h4 : (i : Int) < 4000
    · obtain ⟨h', e⟩ := ih (i + 1) _ (by omega)
      refine ⟨h', ev_succ ?_⟩
      simp only [spec_l1New.l0, if_pos (show ((i : Int) < (b.length : Int)) by omega), if_pos h4, if_pos (nn _)]
      rw [show wrap64 ((i : Int) + 1) = ((i + 1 : Nat) : Int) by unfold wrap64; omega]
      exact e
    · refine ⟨h, ev_succ ?_⟩
      simp only [spec_l1New.l0, if_pos (show ((i : Int) < (b.length : Int)) by omega), if_neg h4]
      exact Ev.now _
theorem l1New_ev (b : List Int) (hb : b.length < 1099511627776) : ∃ h', Ev (fun k => spec_l1New.f k b) (b, 0, h') := l1New_l0 b hb b.length 0 _ (by omega)
theorem laws_big_eq (b : List Int) : laws_big.f b = some (decide ((b.length : Int) > 4096)) := rfl
theorem ix2 {α : Type} {l pre t : List α} {p a : α} (h : l = (pre ++ [p]) ++ a :: t) (hl : l.length < 4611686018427387904) :
    (((pre ++ [p]).length : Int)) > 0 ∧ wrap64 (((pre ++ [p]).length : Int) - 1) = (pre.length : Int) ∧ (∀ d, l.getD pre.length d = p) ∧ (pre.length : Int) < (l.length : Int) := by
  subst h
  simp only [List.length_append, List.length_cons, List.length_nil] at *
  refine ⟨by omega, by unfold wrap64; omega, fun d => by simp [List.getD], by omega⟩
theorem ev_eq {α : Type} {f g : Nat → Option α} {r : α} (h : f = g) (k : Ev g r) : Ev f r := h ▸ k
def pCmpI (a b : Int) : Int := if a < b then -1 else if a = b then 0 else 1
theorem cmp_Compare_int_eq (a b : Int) : cmp_Compare_int.f a b = some (pCmpI a b) := by
  simp only [cmp_Compare_int.f, cmp_isNaN_int.f, bne_self_eq_false, Option.bind_some, Bool.false_eq_true, if_false, pCmpI]
  repeat' split
  all_goals first | rfl | omega
theorem cmp_Or_int_ev (a b : Int) : Ev (fun k => cmp_Or_int.f k [a, b]) (if a = 0 then b else a) := by
  unfold cmp_Or_int.f
  refine ev_succ ?_
  simp only [cmp_Or_int.l0, List.length_cons, List.length_nil, if_pos (show ((0 : Int) < ((0 + 1 + 1 : Nat) : Int)) by omega), if_pos (show (0 : Int) ≤ 0 by omega), rd, Int.toNat_zero, List.getD_cons_zero]
  refine ev_ite (fun h => ?_) (fun h => ?_)
  · rw [if_pos h, show wrap64 (0 + 1) = 1 by unfold wrap64; omega]
    refine ev_succ ?_
    simp only [cmp_Or_int.l0, List.length_cons, List.length_nil, if_pos (show ((1 : Int) < ((0 + 1 + 1 : Nat) : Int)) by omega), if_pos (show (0 : Int) ≤ 1 by omega), rd, show ((1 : Int).toNat) = 1 from rfl, List.getD_cons_succ, List.getD_cons_zero]
    refine ev_ite (fun h2 => ?_) (fun h2 => Ev.now _)
    rw [show wrap64 (1 + 1) = 2 by unfold wrap64; omega, h2]
    refine ev_succ ?_
    simp only [cmp_Or_int.l0, List.length_cons, List.length_nil, if_neg (show ¬ ((2 : Int) < ((0 + 1 + 1 : Nat) : Int)) by omega)]
    exact Ev.now _
  · rw [if_neg h]; exact Ev.now _
def pMeas (x : Int) : Bool := decide (-4096 ≤ x) && decide (x ≤ 4096)
theorem spec_IsMeasure_eq (x : Int) : spec_IsMeasure.f x = some (pMeas x) := by
  unfold spec_IsMeasure.f pMeas; split <;> simp <;> omega
def pMeas' (x : Int) : Bool := decide (-4096 ≤ x) && decide (x ≤ 4096)
theorem impl_IsMeasure_eq (x : Int) : impl_IsMeasure.f x = some (pMeas' x) := by
  simp only [impl_IsMeasure.f, impl_isWithin_eq, Option.bind_some, pMeas']
def nmC (b : Int) (i : Nat) : Bool := (decide (97 ≤ b) && decide (b ≤ 122)) || ((decide (48 ≤ b) && decide (b ≤ 57)) && !decide (i = 0))
def nmR (a : ByteArray) : Nat → Nat → Bool
  | 0, _ => decide (1 ≤ (a.size : Int)) && decide ((a.size : Int) ≤ 8)
  | d + 1, i => nmC (bt a (i : Int)) i && nmR a d (i + 1)
def pName (a : ByteArray) : Bool := nmR a a.size 0
theorem spec_IsName_l0 (a : ByteArray) (ha : a.size ≤ 9223372036854775807) : ∀ (d i : Nat), i + d = a.size → Ev (fun k => spec_IsName.l0 k a (i : Int)) (nmR a d i) := by
  intro d
  induction d with
  | zero =>
    intro i h
    refine ev_succ ?_
    simp only [spec_IsName.l0, if_neg (show ¬ ((i : Int) < (a.size : Int)) by omega), nmR]
    refine ev_ite (fun c => ?_) (fun c => ?_)
    · rw [decide_eq_true (show 1 ≤ (a.size : Int) by omega), Bool.true_and]; exact Ev.now _
    · rw [decide_eq_false (show ¬ 1 ≤ (a.size : Int) by omega), Bool.false_and]; exact Ev.now _
  | succ d ih =>
    intro i h
    have ih' := ih (i + 1) (by omega)
    refine ev_succ ?_
    simp only [spec_IsName.l0, if_pos (show ((i : Int) < (a.size : Int)) by omega), if_pos (nn _), nmR]
    rw [show wrap64 ((i : Int) + 1) = ((i + 1 : Nat) : Int) by unfold wrap64; omega]
    generalize bt a (i : Int) = b
    have hi : ((i : Int) = 0) = (i = 0) := by simp
    simp only [nmC, hi]
    by_cases h1 : 97 ≤ b <;> by_cases h2 : b ≤ 122 <;> by_cases h3 : 48 ≤ b <;> by_cases h4 : b ≤ 57 <;> by_cases h5 : i = 0 <;> first | (exfalso; omega) | skip
    all_goals simp only [ge_iff_le, h1, h2, h3, h4, h5, decide_true, decide_false, Bool.true_and, Bool.false_and, Bool.and_true, Bool.and_false, Bool.or_true, Bool.true_or, Bool.or_false, Bool.false_or, Bool.not_true, Bool.not_false, if_true, if_false]
    all_goals first | exact Ev.now _ | exact ih' | (subst h5; exact ih')
theorem spec_IsName_ev (a : ByteArray) (ha : a.size ≤ 9223372036854775807) : Ev (fun k => spec_IsName.f k a) (pName a) := spec_IsName_l0 a ha a.size 0 (by omega)
theorem impl_IsName_l0 (a : ByteArray) (ha : a.size ≤ 9223372036854775807) : ∀ (d i : Nat), i + d = a.size → Ev (fun k => impl_IsName.l0 k a (a.size : Int) (i : Int)) (nmR a d i) := by
  intro d
  induction d with
  | zero =>
    intro i h
    refine ev_succ ?_
    simp only [impl_IsName.l0, if_neg (show ¬ ((i : Int) < (a.size : Int)) by omega), nmR, impl_isWithin_eq, Option.bind_some]
    exact Ev.now _
  | succ d ih =>
    intro i h
    have ih' := ih (i + 1) (by omega)
    refine ev_succ ?_
    simp only [impl_IsName.l0, if_pos (show ((i : Int) < (a.size : Int)) by omega), if_pos (nn _), nmR]
    rw [show wrap64 ((i : Int) + 1) = ((i + 1 : Nat) : Int) by unfold wrap64; omega]
    generalize bt a (i : Int) = b
    have hi : ((i : Int) = 0) = (i = 0) := by simp
    simp only [nmC, hi, gt_iff_lt, ← Int.not_le]
    by_cases h1 : 97 ≤ b <;> by_cases h2 : b ≤ 122 <;> by_cases h3 : 48 ≤ b <;> by_cases h4 : b ≤ 57 <;> by_cases h5 : i = 0 <;> first | (exfalso; omega) | skip
    all_goals simp only [ge_iff_le, h1, h2, h3, h4, h5, not_true_eq_false, not_false_eq_true, decide_true, decide_false, Bool.true_and, Bool.false_and, Bool.and_true, Bool.and_false, Bool.or_true, Bool.true_or, Bool.or_false, Bool.false_or, Bool.not_true, Bool.not_false, if_true, if_false]
    all_goals first | exact Ev.now _ | exact ih' | (subst h5; exact ih')
theorem impl_IsName_ev (a : ByteArray) (ha : a.size ≤ 9223372036854775807) : Ev (fun k => impl_IsName.f k a) (pName a) := impl_IsName_l0 a ha a.size 0 (by omega)
def pCue (t : Int) (n : ByteArray) (v r : Int) : Bool := (decide (0 ≤ t) && decide (t ≤ 64)) && (pName n && ((decide (0 ≤ v) && decide (v ≤ 32)) && (decide (0 ≤ r) && decide (r ≤ 16))))
theorem spec_IsCue_ev (t : Int) (n : ByteArray) (v r : Int) (hn : n.size ≤ 9223372036854775807) : Ev (fun k => spec_IsCue.f k t n v r) (pCue t n v r) := by
  simp only [spec_IsCue.f, spec_l1In_eq, Option.bind_some, pCue]
  refine ev_ite (fun c => ?_) (fun c => ?_)
  · rw [c, Bool.true_and]
    refine Ev.bind (spec_IsName_ev n hn) ?_
    refine ev_ite (fun c => ?_) (fun c => ?_)
    · rw [c, Bool.true_and]
      refine ev_ite (fun c => ?_) (fun c => ?_)
      · rw [c, Bool.true_and]; exact Ev.now _
      · rw [Bool.eq_false_iff.2 c, Bool.false_and]; exact Ev.now _
    · rw [Bool.eq_false_iff.2 c, Bool.false_and]; exact Ev.now _
  · rw [Bool.eq_false_iff.2 c, Bool.false_and]; exact Ev.now _
theorem impl_IsCue_ev (t : Int) (n : ByteArray) (v r : Int) (hn : n.size ≤ 9223372036854775807) : Ev (fun k => impl_IsCue.f k t n v r) (pCue t n v r) := by
  simp only [impl_IsCue.f, impl_isWithin_eq, Option.bind_some, pCue]
  refine ev_ite (fun c => ?_) (fun c => ?_)
  · rw [c, Bool.true_and]
    refine Ev.bind (impl_IsName_ev n hn) ?_
    refine ev_ite (fun c => ?_) (fun c => ?_)
    · rw [c, Bool.true_and]
      refine ev_ite (fun c => ?_) (fun c => ?_)
      · rw [c, Bool.true_and]; exact Ev.now _
      · rw [Bool.eq_false_iff.2 c, Bool.false_and]; exact Ev.now _
    · rw [Bool.eq_false_iff.2 c, Bool.false_and]; exact Ev.now _
  · rw [Bool.eq_false_iff.2 c, Bool.false_and]; exact Ev.now _
theorem bl_irrefl : ∀ x, Op.bytesLess x x = false
  | [] => rfl
  | a :: x => by
    simp only [Op.bytesLess, bl_irrefl x, Bool.and_false, Bool.or_false, decide_eq_false_iff_not]
    exact UInt8.lt_irrefl a
theorem bl_tri : ∀ x y, Op.bytesLess x y = false → Op.bytesLess y x = false → x = y
  | [], [], _, _ => rfl
  | [], _ :: _, h, _ => by simp [Op.bytesLess] at h
  | _ :: _, [], _, h => by simp [Op.bytesLess] at h
  | a :: x, b :: y, h, h' => by
    simp only [Op.bytesLess, Bool.or_eq_false_iff, decide_eq_false_iff_not] at h h'
    have hab : a = b := by
      have h1 := h.1; have h2 := h'.1
      exact UInt8.le_antisymm (UInt8.not_lt.1 h2) (UInt8.not_lt.1 h1)
    subst hab
    simp only [beq_self_eq_true, Bool.true_and] at h h'
    rw [bl_tri x y h.2 h'.2]
theorem bl_trans : ∀ x y z, Op.bytesLess x y = true → Op.bytesLess y z = true → Op.bytesLess x z = true
  | _, _, [], _, h => by cases ‹List UInt8› <;> simp [Op.bytesLess] at h
  | [], _, _ :: _, _, _ => rfl
  | _ :: _, [], _ :: _, h, _ => by simp [Op.bytesLess] at h
  | a :: x, b :: y, c :: z, h, h' => by
    simp only [Op.bytesLess, Bool.or_eq_true, decide_eq_true_eq, Bool.and_eq_true, beq_iff_eq] at h h' ⊢
    rcases h with h | ⟨h, h2⟩
    · rcases h' with h' | ⟨h', h2'⟩
      · exact .inl (UInt8.lt_trans h h')
      · exact .inl (h' ▸ h)
    · rcases h' with h' | ⟨h', h2'⟩
      · exact .inl (h ▸ h')
      · exact .inr ⟨h.trans h', bl_trans x y z h2 h2'⟩
/-- The order of cues. -/
def pCmpC (a : Int) (b : ByteArray) (c : Int) (d : ByteArray) : Int :=
  if a < c then -1 else if a = c then (if Op.bytesLess b.toList d.toList = true then -1 else if b.toList = d.toList then 0 else 1) else 1
def pCmpS (a b : ByteArray) : Int := if Op.bytesLess a.toList b.toList = true then -1 else if a.toList = b.toList then 0 else 1
theorem cmp_Compare_string_eq (a b : ByteArray) : cmp_Compare_string.f a b = some (pCmpS a b) := by
  simp only [cmp_Compare_string.f, cmp_isNaN_string.f, bne_self_eq_false, Option.bind_some, Bool.false_eq_true, if_false, pCmpS]
  split
  · rfl
  · rename_i h
    split
    · rename_i h2
      rw [if_neg]
      intro e
      rw [e, bl_irrefl] at h2
      cases h2
    · rename_i h2
      rw [if_pos (bl_tri _ _ (Bool.eq_false_iff.2 h) (Bool.eq_false_iff.2 h2))]
theorem impl_CompareCues_ev (a : Int) (b : ByteArray) (v r c : Int) (d : ByteArray) (v' r' : Int) : Ev (fun k => impl_CompareCues.f k a b v r c d v' r') (pCmpC a b c d) := by
  simp only [impl_CompareCues.f, cmp_Compare_int_eq, cmp_Compare_string_eq, Option.bind_some]
  have := cmp_Or_int_ev (pCmpI a c) (pCmpS b d)
  have e : (if pCmpI a c = 0 then pCmpS b d else pCmpI a c) = pCmpC a b c d := by
    unfold pCmpI pCmpC pCmpS
    by_cases h1 : a < c
    · simp [h1]
    · by_cases h2 : a = c
      · simp [h2]
      · simp [h1, h2]
  rw [e] at this
  exact Ev.bind this (Ev.now _)
theorem l1Str_ok (b : List Int) (i h : Int) (l : List ByteArray) (hb : b.length < 1099511627776) (hi : 0 ≤ i) (hl : l ≠ []) : ∃ r i' h', spec_l1Str.f b i h l = some (r, i', h') ∧ 0 ≤ i' ∧ r ∈ l := by
  obtain ⟨r, i', h', e, hi', h0, h1⟩ := l1Below_ok b i h (l.length : Int) hb hi
  have hp : 0 < l.length := List.length_pos_iff.2 hl
  unfold spec_l1Str.f
  rw [e]; simp only [Option.bind_some]
  have hlt : r < (l.length : Int) := by omega
  rw [if_pos h0, if_pos hlt]
  refine ⟨_, _, _, rfl, hi', ?_⟩
  have h2 : r.toNat < l.length := by omega
  simp only [rdOf, List.getD_eq_getElem?_getD, List.getElem?_eq_getElem h2, Option.getD_some]
  exact List.getElem_mem _
def nmL : List ByteArray := [(⟨#[97]⟩ : ByteArray), (⟨#[97]⟩ : ByteArray), (⟨#[98]⟩ : ByteArray), (⟨#[99]⟩ : ByteArray), (⟨#[114]⟩ : ByteArray), (⟨#[110, 111]⟩ : ByteArray)]
theorem nmL_size : ∀ x ∈ nmL, x.size ≤ 9223372036854775807 := by
  intro x hx
  simp only [nmL, List.mem_cons, List.not_mem_nil, or_false] at hx
  rcases hx with h | h | h | h | h | h <;> subst h <;> decide
theorem l7Name_ok (b : List Int) (i h : Int) (hb : b.length < 1099511627776) (hi : 0 ≤ i) : ∃ r i' h', spec_l7Name.f b i h = some (r, i', h') ∧ 0 ≤ i' ∧ r ∈ nmL := by
  obtain ⟨r, i', h', e, hi', hr⟩ := l1Str_ok b i h nmL hb hi (by simp [nmL])
  unfold spec_l7Name.f
  change ∃ r i' h', ((spec_l1Str.f b i h nmL).bind fun bt => some (bt.1, bt.2.1, bt.2.2)) = _ ∧ _
  rw [e]
  exact ⟨_, _, _, rfl, hi', hr⟩
theorem l7Cue_ok (b : List Int) (i h : Int) (hb : b.length < 1099511627776) (hi : 0 ≤ i) : ∃ t n v r i' h', spec_l7Cue.f b i h = some (t, n, v, r, i', h') ∧ 0 ≤ i' ∧ n ∈ nmL ∧ t < 14 := by
  obtain ⟨t, i1, h1, e1, hi1, _, ht⟩ := l1Below_ok b i h 14 hb hi
  obtain ⟨n, i2, h2, e2, hi2, hn⟩ := l7Name_ok b i1 h1 hb hi1
  obtain ⟨v, i3, h3, e3, hi3, _⟩ := l1Below_ok b i2 h2 33 hb hi2
  obtain ⟨r, i4, h4, e4, hi4, _⟩ := l1Int_ok b i3 h3 [0, 0, 1, 2, 3, 5, 8, 16] hb hi3 (by simp)
  unfold spec_l7Cue.f
  simp only [e1, e2, e3, e4, Option.bind_some]
  exact ⟨_, _, _, _, _, _, rfl, hi4, hn, by omega⟩
theorem l1Word_ok (b : List Int) (i h : Int) (hb : b.length < 1099511627776) (hi : 0 ≤ i) : ∃ r i' h', spec_l1Word.f b i h = some (r, i', h') ∧ 0 ≤ i' ∧ r.size ≤ 1000 := by
  have key : ∀ L : List ByteArray, L ≠ [] → (∀ x ∈ L, x.size ≤ 1000) → ∃ r i' h', ((spec_l1Str.f b i h L).bind fun bt => some (bt.1, bt.2.1, bt.2.2)) = some (r, i', h') ∧ 0 ≤ i' ∧ r.size ≤ 1000 := by
    intro L h1 h2
    obtain ⟨r, i', h', e, hi', hr⟩ := l1Str_ok b i h L hb hi h1
    exact ⟨r, i', h', by rw [e]; rfl, hi', h2 r hr⟩
  exact key _ (by simp) (by decide)
theorem l7Any_ok (b : List Int) (i h : Int) (hb : b.length < 1099511627776) (hi : 0 ≤ i) : ∃ t n v r i' h', spec_l7Any.f b i h = some (t, n, v, r, i', h') ∧ 0 ≤ i' ∧ n.size ≤ 9223372036854775807 := by
  obtain ⟨t, n, v, r, i1, h1, e1, hi1, hn, _⟩ := l7Cue_ok b i h hb hi
  have hns := nmL_size n hn
  obtain ⟨x, i2, h2, e2, hi2, _⟩ := l1Below_ok b i1 h1 12 hb hi1
  unfold spec_l7Any.f
  simp only [e1, e2, Option.bind_some]
  split
  · obtain ⟨y, i3, h3, e3, hi3⟩ := l1Odd_ok b i2 h2 hb hi2
    simp only [e3, Option.bind_some]
    exact ⟨_, _, _, _, _, _, rfl, hi3, hns⟩
  · split
    · obtain ⟨y, i3, h3, e3, hi3, hy⟩ := l1Word_ok b i2 h2 hb hi2
      simp only [e3, Option.bind_some]
      exact ⟨_, _, _, _, _, _, rfl, hi3, by omega⟩
    · split
      · obtain ⟨y, i3, h3, e3, hi3, _⟩ := l1Int_ok b i2 h2 [(-1), 32, 33, 1000] hb hi2 (by simp)
        simp only [e3, Option.bind_some]
        exact ⟨_, _, _, _, _, _, rfl, hi3, hns⟩
      · split
        · obtain ⟨y, i3, h3, e3, hi3⟩ := l1Odd_ok b i2 h2 hb hi2
          simp only [e3, Option.bind_some]
          exact ⟨_, _, _, _, _, _, rfl, hi3, hns⟩
        · exact ⟨_, _, _, _, _, _, rfl, hi2, hns⟩
/-- A number in decimal digits. -/
def pNum (n : Int) : ByteArray := ⟨(Go.Lib.itoa n).toArray⟩
theorem decDigits_len : ∀ (u : Nat), (Go.Lib.decDigits u).length ≤ u + 1 := by
  intro u
  induction u using Nat.strongRecOn with
  | ind u ih =>
    rw [Go.Lib.decDigits]
    split
    · simp
    · rw [List.length_append]
      have := ih (u / 10) (by omega)
      simp only [List.length_cons, List.length_nil]
      omega
theorem pNum_nn (n : Nat) : pNum (n : Int) = ⟨(Go.Lib.decDigits n).toArray⟩ := by
  unfold pNum Go.Lib.itoa
  rw [if_neg (by omega), Int.toNat_natCast]
theorem pNum_size (n : Nat) : (pNum (n : Int)).size ≤ n + 1 := by
  rw [pNum_nn]
  show (Go.Lib.decDigits n).toArray.size ≤ n + 1
  rw [List.size_toArray]; exact decDigits_len n
theorem strOfNums_one (m : Nat) : strOfNums [(m : Int)] = ⟨#[UInt8.ofNat m]⟩ := by simp [strOfNums]
theorem pNum_small {n : Nat} (h : n < 10) : pNum (n : Int) = ⟨#[UInt8.ofNat (48 + n)]⟩ := by
  rw [pNum_nn, Go.Lib.decDigits, dif_pos h]
theorem pNum_step {n : Nat} (h : ¬ n < 10) : pNum (n : Int) = pNum ((n / 10 : Nat) : Int) ++ ⟨#[UInt8.ofNat (48 + n % 10)]⟩ := by
  rw [pNum_nn, pNum_nn, Go.Lib.decDigits, dif_neg h]
  apply ByteArray.ext
  simp [ByteArray.data_append]
theorem tdivn (n m : Nat) : Int.tdiv (n : Int) (m : Int) = ((n / m : Nat) : Int) := by rw [Int.tdiv_eq_ediv_of_nonneg (by omega)]; rfl
theorem tmodn (n m : Nat) : Int.tmod (n : Int) (m : Int) = ((n % m : Nat) : Int) := by rw [Int.tmod_eq_emod_of_nonneg (by omega)]; rfl
theorem pNum_sz (t : Int) (h0 : 0 ≤ t) (h1 : t ≤ 100000) : (pNum t).size ≤ 100001 := by
  obtain ⟨m, rfl⟩ := Int.eq_ofNat_of_zero_le h0
  have := pNum_size m
  omega
theorem impl_FormatNumber_eq (n : Int) (h0 : -9223372036854775808 ≤ n) (h1 : n ≤ 9223372036854775807) : impl_FormatNumber.f n = some (pNum n) := by
  unfold impl_FormatNumber.f strconv_Itoa.f
  rw [if_pos ⟨h0, h1⟩]; rfl
theorem impl_FormatNumber_ev (n : Int) (h0 : -9223372036854775808 ≤ n) (h1 : n ≤ 9223372036854775807) : Ev (fun _ => impl_FormatNumber.f n) (pNum n) := by
  rw [impl_FormatNumber_eq n h0 h1]; exact Ev.now _
theorem spec_FormatNumber_ev : ∀ (n : Nat), n ≤ 1000000 → Ev (fun k => spec_FormatNumber.f k (n : Int)) (pNum (n : Int)) := by
  intro n
  induction n using Nat.strongRecOn with
  | ind n ih =>
    intro hn
    refine ev_succ ?_
    simp only [spec_FormatNumber.f, if_neg (show ¬ (n : Int) = -9223372036854775808 by omega), if_neg (show ¬ (n : Int) < 0 by omega), Option.bind_some]
    have e1 : (wrap64 (48 + Int.tmod (n : Int) 10)) % 256 = ((48 + n % 10 : Nat) : Int) := by
      rw [show (10 : Int) = ((10 : Nat) : Int) from rfl, tmodn]; unfold wrap64; omega
    have e2 : wrap64 (Int.tdiv (n : Int) 10) = ((n / 10 : Nat) : Int) := by
      rw [show (10 : Int) = ((10 : Nat) : Int) from rfl, tdivn]; unfold wrap64; omega
    rw [e1, e2, strOfNums_one]
    refine ev_ite (fun c => ?_) (fun c => ?_)
    · refine Ev.bind (ih (n / 10) (by omega) (by omega)) ?_
      have hs := pNum_size (n / 10)
      have h1 : (⟨#[UInt8.ofNat (48 + n % 10)]⟩ : ByteArray).size = 1 := rfl
      rw [← pNum_step (show ¬ n < 10 by omega)]
      exact ev_ite (fun _ => Ev.now _) (fun c2 => absurd (show _ by omega) c2)
    · rw [pNum_small (show n < 10 by omega), show n % 10 = n by omega]
      exact Ev.now _
/-- What stands behind the point: eighths. -/
def fracL : List ByteArray := [(⟨#[]⟩ : ByteArray), (⟨#[46, 49, 50, 53]⟩ : ByteArray), (⟨#[46, 50, 53]⟩ : ByteArray), (⟨#[46, 51, 55, 53]⟩ : ByteArray), (⟨#[46, 53]⟩ : ByteArray), (⟨#[46, 54, 50, 53]⟩ : ByteArray), (⟨#[46, 55, 53]⟩ : ByteArray), (⟨#[46, 56, 55, 53]⟩ : ByteArray)]
def fracT (r : Nat) : ByteArray := rdOf ByteArray.empty fracL (r : Int)
def sgnT (x : Int) : ByteArray := if x < 0 then ⟨#[45]⟩ else ⟨#[]⟩
/-- FormatMeasure -/
def pFmt (x : Int) : ByteArray := if -4096 ≤ x ∧ x ≤ 4096 then sgnT x ++ pNum ((x.natAbs / 8 : Nat) : Int) ++ fracT (x.natAbs % 8) else ⟨#[]⟩
theorem fracT_size (r : Nat) (h : r < 8) : (fracT r).size ≤ 4 := by
  have : r = 0 ∨ r = 1 ∨ r = 2 ∨ r = 3 ∨ r = 4 ∨ r = 5 ∨ r = 6 ∨ r = 7 := by omega
  rcases this with rfl | rfl | rfl | rfl | rfl | rfl | rfl | rfl <;> decide
theorem sgnT_size (x : Int) : (sgnT x).size ≤ 1 := by
  unfold sgnT; split <;> decide
theorem pFmt_size (x : Int) : (pFmt x).size ≤ 1000 := by
  unfold pFmt
  split
  · rename_i h
    rw [ByteArray.size_append, ByteArray.size_append]
    have h1 := sgnT_size x
    have h2 := pNum_size (x.natAbs / 8)
    have h3 := fracT_size (x.natAbs % 8) (by omega)
    omega
  · show 0 ≤ 1000
    omega
theorem trim_frac (r : Nat) (h1 : 1 ≤ r) (h7 : r ≤ 7) : ∃ s t, pNum ((1000 + r * 125 : Nat) : Int) = s ∧ s.size = 4 ∧ strings_TrimRight.f (s.extract 1 s.size) (⟨#[48]⟩ : ByteArray) = some t ∧ t.size ≤ 3 ∧ (⟨#[46]⟩ : ByteArray) ++ t = fracT r := by
  have : r = 1 ∨ r = 2 ∨ r = 3 ∨ r = 4 ∨ r = 5 ∨ r = 6 ∨ r = 7 := by omega
  rcases this with rfl | rfl | rfl | rfl | rfl | rfl | rfl
  · exact ⟨⟨#[49, 49, 50, 53]⟩, ⟨#[49, 50, 53]⟩, by rw [pNum_nn]; simp [Go.Lib.decDigits], rfl, rfl, by decide, rfl⟩
  · exact ⟨⟨#[49, 50, 53, 48]⟩, ⟨#[50, 53]⟩, by rw [pNum_nn]; simp [Go.Lib.decDigits], rfl, rfl, by decide, rfl⟩
  · exact ⟨⟨#[49, 51, 55, 53]⟩, ⟨#[51, 55, 53]⟩, by rw [pNum_nn]; simp [Go.Lib.decDigits], rfl, rfl, by decide, rfl⟩
  · exact ⟨⟨#[49, 53, 48, 48]⟩, ⟨#[53]⟩, by rw [pNum_nn]; simp [Go.Lib.decDigits], rfl, rfl, by decide, rfl⟩
  · exact ⟨⟨#[49, 54, 50, 53]⟩, ⟨#[54, 50, 53]⟩, by rw [pNum_nn]; simp [Go.Lib.decDigits], rfl, rfl, by decide, rfl⟩
  · exact ⟨⟨#[49, 55, 53, 48]⟩, ⟨#[55, 53]⟩, by rw [pNum_nn]; simp [Go.Lib.decDigits], rfl, rfl, by decide, rfl⟩
  · exact ⟨⟨#[49, 56, 55, 53]⟩, ⟨#[56, 55, 53]⟩, by rw [pNum_nn]; simp [Go.Lib.decDigits], rfl, rfl, by decide, rfl⟩
theorem impl_FormatMeasure_j0 (y : Nat) (hy : y ≤ 4096) (s : ByteArray) (hs : s.size ≤ 1) : Ev (fun k => impl_FormatMeasure.j0 k (y : Int) s) (s ++ pNum ((y / 8 : Nat) : Int) ++ fracT (y % 8)) := by
  have e1 : wrap64 (Int.tdiv (y : Int) 8) = ((y / 8 : Nat) : Int) := by
    rw [show (8 : Int) = ((8 : Nat) : Int) from rfl, tdivn]; unfold wrap64; omega
  have e2 : Int.tmod (y : Int) 8 = ((y % 8 : Nat) : Int) := by rw [show (8 : Int) = ((8 : Nat) : Int) from rfl, tmodn]
  have e3 : wrap64 (1000 + wrap64 (((y % 8 : Nat) : Int) * 125)) = ((1000 + (y % 8) * 125 : Nat) : Int) := by unfold wrap64; omega
  have hn := pNum_size (y / 8)
  refine ev_succ ?_
  simp only [impl_FormatMeasure.j0, e1, e2, e3]
  rw [impl_FormatNumber_eq _ (by omega) (by omega), Option.bind_some]
  refine ev_ite (fun _ => ?_) (fun c => absurd (show _ by omega) c)
  refine ev_ite (fun c => ?_) (fun c => ?_)
  · obtain ⟨q, t, hq, hqs, ht, hts, hf⟩ := trim_frac (y % 8) (by omega) (by omega)
    rw [impl_FormatNumber_eq _ (by omega) (by omega), Option.bind_some, hq]
    refine ev_ite (fun _ => ?_) (fun c => absurd (show _ by omega) c)
    rw [ht, Option.bind_some, hf]
    have h4 := fracT_size (y % 8) (by omega)
    have h5 : (s ++ pNum ((y / 8 : Nat) : Int)).size = s.size + (pNum ((y / 8 : Nat) : Int)).size := ByteArray.size_append ..
    refine ev_ite (fun _ => ?_) (fun c => absurd (show _ by omega) c)
    exact ev_ite (fun _ => Ev.now _) (fun c => absurd (show _ by omega) c)
  · have h0 : y % 8 = 0 := by omega
    rw [h0]
    have : fracT 0 = (⟨#[]⟩ : ByteArray) := rfl
    rw [this]
    have h6 : ∀ z : ByteArray, z ++ (⟨#[]⟩ : ByteArray) = z := fun z => by apply ByteArray.ext; simp [ByteArray.data_append]
    rw [h6]
    exact Ev.now _
theorem impl_FormatMeasure_ev (x : Int) : Ev (fun k => impl_FormatMeasure.f k x) (pFmt x) := by
  simp only [impl_FormatMeasure.f, impl_IsMeasure_eq, Option.bind_some, pMeas', pFmt]
  refine ev_ite (fun h => ?_) (fun h => ?_)
  · simp only [Bool.and_eq_true, decide_eq_true_eq] at h
    rw [if_pos h]
    unfold sgnT
    refine ev_ite (fun c => ?_) (fun c => ?_)
    · rw [if_pos c, show wrap64 (-x) = ((x.natAbs : Nat) : Int) by unfold wrap64; omega]
      exact impl_FormatMeasure_j0 x.natAbs (by omega) (⟨#[45]⟩ : ByteArray) (by decide)
    · rw [if_neg c]
      have := impl_FormatMeasure_j0 x.natAbs (by omega) (⟨#[]⟩ : ByteArray) (by decide)
      rw [show ((x.natAbs : Nat) : Int) = x by omega] at this
      exact this
  · have h' : ¬ (-4096 ≤ x ∧ x ≤ 4096) := by simpa using h
    rw [if_neg h']; exact Ev.now _
theorem spec_FormatMeasure_ev (x : Int) : Ev (fun k => spec_FormatMeasure.f k x) (pFmt x) := by
  have key : ∀ (y : Nat) (s : ByteArray), y ≤ 4096 → s.size ≤ 1 → Ev (fun k => (spec_FormatNumber.f k ((y / 8 : Nat) : Int)).bind fun t133 => (if s.size + t133.size ≤ 9223372036854775807 then ((some fracL).bind fun y134 => (if 0 ≤ ((y % 8 : Nat) : Int) then (if ((y % 8 : Nat) : Int) < (y134.length : Int) then (if (s ++ t133).size + (rdOf ByteArray.empty y134 ((y % 8 : Nat) : Int)).size ≤ 9223372036854775807 then (some ((s ++ t133) ++ (rdOf ByteArray.empty y134 ((y % 8 : Nat) : Int)))) else (none)) else (none)) else (none))) else (none))) (s ++ pNum ((y / 8 : Nat) : Int) ++ fracT (y % 8)) := by
    intro y s hy hs
    have hn := pNum_size (y / 8)
    have h4 := fracT_size (y % 8) (by omega)
    have h5 : (s ++ pNum ((y / 8 : Nat) : Int)).size = s.size + (pNum ((y / 8 : Nat) : Int)).size := ByteArray.size_append ..
    refine Ev.bind (spec_FormatNumber_ev (y / 8) (by omega)) ?_
    refine ev_ite (fun _ => ?_) (fun c => absurd (show _ by omega) c)
    simp only [Option.bind_some]
    refine ev_ite (fun _ => ?_) (fun c => absurd (show _ by omega) c)
    refine ev_ite (fun _ => ?_) (fun c => absurd (show ((y % 8 : Nat) : Int) < (fracL.length : Int) by show _ < (8 : Int); omega) c)
    change Ev (fun _ => if (s ++ pNum ((y / 8 : Nat) : Int)).size + (fracT (y % 8)).size ≤ 9223372036854775807 then some (s ++ pNum ((y / 8 : Nat) : Int) ++ fracT (y % 8)) else none) _
    exact ev_ite (fun _ => Ev.now _) (fun c => absurd (show _ by omega) c)
  simp only [spec_FormatMeasure.f, spec_IsMeasure_eq, Option.bind_some, pMeas, pFmt]
  refine ev_ite (fun h => ?_) (fun h => ?_)
  · simp only [Bool.and_eq_true, decide_eq_true_eq] at h
    rw [if_pos h]
    unfold sgnT
    refine ev_ite (fun c => ?_) (fun c => ?_)
    · rw [if_pos c, show wrap64 (-x) = ((x.natAbs : Nat) : Int) by unfold wrap64; omega]
      have e1 : wrap64 (Int.tdiv ((x.natAbs : Nat) : Int) 8) = ((x.natAbs / 8 : Nat) : Int) := by
        rw [show (8 : Int) = ((8 : Nat) : Int) from rfl, tdivn]; unfold wrap64; omega
      have e2 : Int.tmod ((x.natAbs : Nat) : Int) 8 = ((x.natAbs % 8 : Nat) : Int) := by rw [show (8 : Int) = ((8 : Nat) : Int) from rfl, tmodn]
      rw [e1, e2]
      exact key x.natAbs (⟨#[45]⟩ : ByteArray) (by omega) (by decide)
    · rw [if_neg c]
      have hx : ((x.natAbs : Nat) : Int) = x := by omega
      have e1 : wrap64 (Int.tdiv x 8) = ((x.natAbs / 8 : Nat) : Int) := by
        rw [← hx, show (8 : Int) = ((8 : Nat) : Int) from rfl, tdivn]; unfold wrap64; omega
      have e2 : Int.tmod x 8 = ((x.natAbs % 8 : Nat) : Int) := by rw [← hx, show (8 : Int) = ((8 : Nat) : Int) from rfl, tmodn]; rfl
      rw [e1, e2]
      exact key x.natAbs (⟨#[]⟩ : ByteArray) (by omega) (by decide)
  · have h' : ¬ (-4096 ≤ x ∧ x ≤ 4096) := by simpa using h
    rw [if_neg h']; exact Ev.now _
theorem nmR_size {a : ByteArray} : ∀ (d i : Nat), nmR a d i = true → a.size ≤ 8
  | 0, i, h => by
    unfold nmR at h
    simp only [Bool.and_eq_true, decide_eq_true_eq] at h
    omega
  | d + 1, i, h => by
    unfold nmR at h
    rw [Bool.and_eq_true] at h
    exact nmR_size d (i + 1) h.2
theorem pName_size {a : ByteArray} (h : pName a = true) : a.size ≤ 8 := nmR_size _ _ h
/-- FormatCue -/
def pCueB (t : Int) (n : ByteArray) (v : Int) : ByteArray := (((pNum t ++ (⟨#[32]⟩ : ByteArray)) ++ n) ++ (⟨#[32]⟩ : ByteArray)) ++ pFmt v
def pCueT (t : Int) (n : ByteArray) (v r : Int) : ByteArray := if pCue t n v r = true then (if r = 0 then pCueB t n v else pCueB t n v ++ ((⟨#[32, 105, 110, 32]⟩ : ByteArray) ++ pNum r)) else ⟨#[]⟩
theorem pCue_num {t : Int} {n : ByteArray} {v r : Int} (h : pCue t n v r = true) : (0 ≤ t ∧ t ≤ 64) ∧ n.size ≤ 8 ∧ 0 ≤ r ∧ r ≤ 16 := by
  simp only [pCue, Bool.and_eq_true, decide_eq_true_eq] at h
  exact ⟨h.1, pName_size h.2.1, h.2.2.2⟩
theorem impl_FormatCue_ev (t : Int) (n : ByteArray) (v r : Int) (hn : n.size ≤ 9223372036854775807) : Ev (fun k => impl_FormatCue.f k t n v r) (pCueT t n v r) := by
  unfold impl_FormatCue.f pCueT
  refine Ev.bind (impl_IsCue_ev t n v r hn) ?_
  refine ev_ite (fun h => ?_) (fun h => ?_)
  · rw [if_pos h]
    obtain ⟨⟨t0, t1⟩, hs, r0, r1⟩ := pCue_num h
    have ht := pNum_sz t t0 (by omega)
    have hr := pNum_sz r r0 (by omega)
    have hv := pFmt_size v
    refine Ev.bind (impl_FormatNumber_ev t (by omega) (by omega)) ?_
    have z1 : (⟨#[32]⟩ : ByteArray).size = 1 := rfl
    have z4 : (⟨#[32, 105, 110, 32]⟩ : ByteArray).size = 4 := rfl
    refine ev_ite (fun _ => ?_) (fun c => absurd (show _ by omega) c)
    refine ev_ite (fun _ => ?_) (fun c => absurd (show _ by rw [ByteArray.size_append]; omega) c)
    refine ev_ite (fun _ => ?_) (fun c => absurd (show _ by rw [ByteArray.size_append, ByteArray.size_append]; omega) c)
    refine Ev.bind (impl_FormatMeasure_ev v) ?_
    refine ev_ite (fun _ => ?_) (fun c => absurd (show _ by rw [ByteArray.size_append, ByteArray.size_append, ByteArray.size_append]; omega) c)
    refine ev_ite (fun c => ?_) (fun c => ?_)
    · rw [if_pos c]; exact Ev.now _
    · rw [if_neg c]
      refine Ev.bind (impl_FormatNumber_ev r (by omega) (by omega)) ?_
      refine ev_ite (fun _ => ?_) (fun c => absurd (show _ by omega) c)
      exact ev_ite (fun _ => Ev.now _) (fun c => absurd (show _ by simp only [ByteArray.size_append]; omega) c)
  · rw [if_neg h]; exact Ev.now _
theorem spec_FormatCue_ev (t : Int) (n : ByteArray) (v r : Int) (hn : n.size ≤ 9223372036854775807) : Ev (fun k => spec_FormatCue.f k t n v r) (pCueT t n v r) := by
  unfold spec_FormatCue.f pCueT
  refine Ev.bind (spec_IsCue_ev t n v r hn) ?_
  refine ev_ite (fun h => ?_) (fun h => ?_)
  · rw [if_pos h]
    obtain ⟨⟨t0, t1⟩, hs, r0, r1⟩ := pCue_num h
    have ht := pNum_sz t t0 (by omega)
    have hr := pNum_sz r r0 (by omega)
    have hv := pFmt_size v
    have et : ((t.toNat : Nat) : Int) = t := by omega
    have er : ((r.toNat : Nat) : Int) = r := by omega
    have ft := spec_FormatNumber_ev t.toNat (by omega)
    have fr := spec_FormatNumber_ev r.toNat (by omega)
    rw [et] at ft
    rw [er] at fr
    have z1 : (⟨#[32]⟩ : ByteArray).size = 1 := rfl
    have z4 : (⟨#[32, 105, 110, 32]⟩ : ByteArray).size = 4 := rfl
    refine Ev.bind ft ?_
    refine ev_ite (fun _ => ?_) (fun c => absurd (show _ by omega) c)
    refine ev_ite (fun _ => ?_) (fun c => absurd (show _ by rw [ByteArray.size_append]; omega) c)
    refine ev_ite (fun _ => ?_) (fun c => absurd (show _ by rw [ByteArray.size_append, ByteArray.size_append]; omega) c)
    refine Ev.bind (spec_FormatMeasure_ev v) ?_
    refine ev_ite (fun _ => ?_) (fun c => absurd (show _ by rw [ByteArray.size_append, ByteArray.size_append, ByteArray.size_append]; omega) c)
    refine ev_ite (fun c => ?_) (fun c => ?_)
    · rw [if_neg (show ¬ r = 0 by omega)]
      refine ev_ite (fun _ => ?_) (fun c => absurd (show _ by simp only [ByteArray.size_append]; omega) c)
      refine Ev.bind fr ?_
      refine ev_ite (fun _ => ?_) (fun c => absurd (show _ by simp only [ByteArray.size_append]; omega) c)
      unfold pCueB
      rw [← ByteArray.append_assoc (b := (⟨#[32, 105, 110, 32]⟩ : ByteArray))]
      exact Ev.now _
    · rw [if_pos (show r = 0 by omega)]; exact Ev.now _
  · rw [if_neg h]; exact Ev.now _
/-- The words between the bytes c; p is the word that has begun. -/
def splA (c : UInt8) : List UInt8 → List UInt8 → List (List UInt8)
  | p, [] => [p]
  | p, b :: l => if b = c then p :: splA c [] l else splA c (p ++ [b]) l
theorem splA_word (c : UInt8) : ∀ (w p r : List UInt8), c ∉ w → splA c p (w ++ c :: r) = (p ++ w) :: splA c [] r
  | [], p, r, _ => by simp [splA]
  | b :: w, p, r, h => by
    have hb : ¬ b = c := fun e => h (by simp [e])
    rw [List.cons_append, splA, if_neg hb, splA_word c w (p ++ [b]) r (fun e => h (by simp [e]))]
    simp
theorem splA_last (c : UInt8) : ∀ (w p : List UInt8), c ∉ w → splA c p w = [p ++ w]
  | [], p, _ => by simp [splA]
  | b :: w, p, h => by
    have hb : ¬ b = c := fun e => h (by simp [e])
    rw [splA, if_neg hb, splA_last c w (p ++ [b]) (fun e => h (by simp [e]))]
    simp
theorem splA_len (c : UInt8) : ∀ (l p w : List UInt8), w ∈ splA c p l → w.length ≤ p.length + l.length
  | [], p, w, h => by simp [splA] at h; subst h; simp
  | b :: l, p, w, h => by
    rw [splA] at h
    split at h
    · rcases List.mem_cons.1 h with rfl | h
      · simp
      · have := splA_len c l [] w h; simp at this ⊢; omega
    · have := splA_len c l _ w h; simp at this ⊢; omega
theorem splA_count (c : UInt8) : ∀ (l p : List UInt8), (splA c p l).length ≤ l.length + 1
  | [], p => by simp [splA]
  | b :: l, p => by
    rw [splA]
    split
    · have := splA_count c l []; simp only [List.length_cons]; omega
    · have := splA_count c l (p ++ [b]); simp only [List.length_cons]; omega
theorem splA_ne (c : UInt8) : ∀ (l p : List UInt8), splA c p l ≠ []
  | [], p => by simp [splA]
  | b :: l, p => by
    rw [splA]
    split
    · simp
    · exact splA_ne c l _
theorem mem_first {c : UInt8} : ∀ {l : List UInt8}, c ∈ l → ∃ w r, l = w ++ c :: r ∧ c ∉ w
  | b :: l, h => by
    by_cases e : b = c
    · exact ⟨[], l, by rw [e]; rfl, by simp⟩
    · have h' : c ∈ l := by
        rcases List.mem_cons.1 h with h | h
        · exact absurd h.symm e
        · exact h
      obtain ⟨w, r, e1, e2⟩ := mem_first h'
      exact ⟨b :: w, r, by rw [e1]; rfl, by simp [e2, Ne.symm e]⟩
theorem index_one {c : UInt8} : ∀ (w r : List UInt8), c ∉ w → Go.Lib.index (w ++ c :: r) [c] = (w.length : Int)
  | [], r, _ => by simp [Go.Lib.index, List.isPrefixOf]
  | b :: w, r, h => by
    have hb : ¬ c = b := fun e => h (by simp [e])
    have ih := index_one w r (fun e => h (List.mem_cons_of_mem _ e))
    have hp : ¬ ([c].isPrefixOf (b :: (w ++ c :: r)) = true) := by simp [List.isPrefixOf, hb]
    have hq : ¬ (((w.length : Int) == -1) = true) := by simp only [beq_iff_eq]; omega
    rw [List.cons_append, Go.Lib.index, if_neg hp, ih, if_neg hq]
    simp
theorem index_none {c : UInt8} : ∀ (w : List UInt8), c ∉ w → Go.Lib.index w [c] = -1
  | [], _ => by simp [Go.Lib.index]
  | b :: w, h => by
    have hb : ¬ c = b := fun e => h (by simp [e])
    rw [Go.Lib.index, if_neg (by simp [List.isPrefixOf, hb]), index_none w (fun e => h (by simp [e])), if_pos (by decide)]
theorem splitK_eq (c : UInt8) : ∀ (k : Nat) (l : List UInt8), l.count c ≤ k → Go.Lib.splitK [c] 0 k l = splA c [] l
  | 0, l, h => by
    have hc : c ∉ l := fun m => by have := List.count_pos_iff.2 m; omega
    rw [Go.Lib.splitK, splA_last c l [] hc, List.nil_append]
  | k + 1, l, h => by
    by_cases m : c ∈ l
    · obtain ⟨w, r, rfl, hw⟩ := mem_first m
      have hr : r.count c ≤ k := by
        simp [List.count_append, List.count_cons] at h; omega
      rw [Go.Lib.splitK, index_one w r hw, if_neg (show ¬ (((w.length : Int) == -1) = true) by simp only [beq_iff_eq]; omega), splA_word c w [] r hw]
      have e1 : (w ++ c :: r).take ((w.length : Int).toNat + 0) = w := by simp
      have e2 : (w ++ c :: r).drop ((w.length : Int).toNat + [c].length) = r := by simp [List.drop_append]
      rw [e1, e2, splitK_eq c k r hr, List.nil_append]
    · rw [Go.Lib.splitK, index_none l m, if_pos (by decide), splA_last c l [] m, List.nil_append]
theorem head_of {L : List ByteArray} {w : List UInt8} {ws : List (List UInt8)} (h : L.map (fun x => x.data.toList) = w :: ws) : ∃ a t, L = a :: t ∧ a.data.toList = w ∧ t.map (fun x => x.data.toList) = ws := by
  cases L with
  | nil => cases h
  | cons a t => simp only [List.map_cons, List.cons.injEq] at h; exact ⟨a, t, rfl, h.1, h.2⟩
theorem impl_SplitAt_eq (s : ByteArray) (c : UInt8) (hs : s.size < 4294967281) : ∃ L, impl_SplitAt.f s (⟨#[c]⟩ : ByteArray) = some L ∧ L.map (fun x => x.data.toList) = splA c [] s.data.toList := by
  refine ⟨Go.Lib.splitB ⟨#[c]⟩ 0 (Go.Lib.countB s ⟨#[c]⟩) s, ?_, ?_⟩
  · unfold impl_SplitAt.f strings_Split.f
    rw [if_neg (by rw [ByteArray.toList_eq]; simp), if_pos ⟨hs, by show 1 ≤ 1; omega⟩]; rfl
  · rw [Go.Lib.splitB_data]
    refine splitK_eq c _ _ ?_
    have : Go.Lib.countB s ⟨#[c]⟩ = s.data.toList.count c := Go.Lib.count_one ..
    omega
/-- A digit. -/
def ud (d : Nat) : UInt8 := UInt8.ofNat (48 + d)
theorem ud_nat {d : Nat} (h : d < 10) : (ud d).toNat = 48 + d := by
  unfold ud; rw [UInt8.toNat_ofNat']; omega
theorem num_cases (n : Nat) (h : n ≤ 999) : (n < 10 ∧ pNum (n : Int) = ⟨#[ud n]⟩) ∨ (10 ≤ n ∧ n < 100 ∧ pNum (n : Int) = ⟨#[ud (n / 10), ud (n % 10)]⟩) ∨ (100 ≤ n ∧ pNum (n : Int) = ⟨#[ud (n / 100), ud (n / 10 % 10), ud (n % 10)]⟩) := by
  by_cases h1 : n < 10
  · exact .inl ⟨h1, pNum_small h1⟩
  · by_cases h2 : n < 100
    · refine .inr (.inl ⟨by omega, h2, ?_⟩)
      rw [pNum_step h1, pNum_small (show n / 10 < 10 by omega)]; rfl
    · refine .inr (.inr ⟨by omega, ?_⟩)
      rw [pNum_step h1, pNum_step (show ¬ n / 10 < 10 by omega), pNum_small (show n / 10 / 10 < 10 by omega), Nat.div_div_eq_div_mul]; rfl
theorem num_digits : ∀ (n : Nat), ∀ b ∈ (pNum (n : Int)).data.toList, 48 ≤ b.toNat ∧ b.toNat ≤ 57 := by
  intro n
  induction n using Nat.strongRecOn with
  | ind n ih =>
    intro b hb
    by_cases h1 : n < 10
    · rw [pNum_small h1, show (⟨#[UInt8.ofNat (48 + n)]⟩ : ByteArray).data.toList = [UInt8.ofNat (48 + n)] from rfl, List.mem_singleton] at hb
      subst hb
      have := ud_nat h1; unfold ud at this; omega
    · rw [pNum_step h1, ByteArray.data_append, Array.toList_append] at hb
      rcases List.mem_append.1 hb with hb | hb
      · exact ih (n / 10) (by omega) b hb
      · rw [show (⟨#[UInt8.ofNat (48 + n % 10)]⟩ : ByteArray).data.toList = [UInt8.ofNat (48 + n % 10)] from rfl, List.mem_singleton] at hb
        subst hb
        have := ud_nat (show n % 10 < 10 by omega); unfold ud at this; omega
theorem num_ne (n : Nat) : (pNum (n : Int)).data.toList ≠ [] := by
  by_cases h1 : n < 10
  · rw [pNum_small h1]; simp
  · rw [pNum_step h1, ByteArray.data_append, Array.toList_append]; simp
/-- What digits stand for. -/
def dvl (l : List UInt8) : Nat := l.foldl (fun a b => 10 * a + (b.toNat - 48)) 0
theorem dvl_num : ∀ (n : Nat), dvl (pNum (n : Int)).data.toList = n := by
  intro n
  induction n using Nat.strongRecOn with
  | ind n ih =>
    by_cases h1 : n < 10
    · rw [pNum_small h1]
      have := ud_nat h1; unfold ud at this
      show 10 * 0 + ((UInt8.ofNat (48 + n)).toNat - 48) = n
      omega
    · rw [pNum_step h1, ByteArray.data_append, Array.toList_append]
      have := ud_nat (show n % 10 < 10 by omega); unfold ud at this
      have h2 := ih (n / 10) (by omega)
      unfold dvl at h2 ⊢
      rw [List.foldl_append, h2]
      show 10 * (n / 10) + ((UInt8.ofNat (48 + n % 10)).toNat - 48) = n
      omega
theorem bt_1 (a : UInt8) : bt (⟨#[a]⟩ : ByteArray) 0 = (a.toNat : Int) := rfl
theorem bt_2 (a b : UInt8) : bt (⟨#[a, b]⟩ : ByteArray) 0 = (a.toNat : Int) ∧ bt (⟨#[a, b]⟩ : ByteArray) 1 = (b.toNat : Int) := ⟨rfl, rfl⟩
theorem bt_3 (a b c : UInt8) : bt (⟨#[a, b, c]⟩ : ByteArray) 0 = (a.toNat : Int) ∧ bt (⟨#[a, b, c]⟩ : ByteArray) 1 = (b.toNat : Int) ∧ bt (⟨#[a, b, c]⟩ : ByteArray) 2 = (c.toNat : Int) := ⟨rfl, rfl, rfl⟩
theorem impl_PN_l0_tot (s : ByteArray) (hs : s.size < 4611686018427387904) : ∀ (d i : Nat) (x : Int), i + d = s.size → ∃ r, Ev (fun k => impl_ParseNumber.l0 k s x (s.size : Int) (i : Int)) r := by
  intro d
  induction d with
  | zero =>
    intro i x h
    refine ⟨(x, true), ev_succ ?_⟩
    simp only [impl_ParseNumber.l0, if_neg (show ¬ (i : Int) < (s.size : Int) by omega)]
    exact Ev.now _
  | succ d ih =>
    intro i x h
    by_cases c1 : bt s (i : Int) < 48
    · refine ⟨(0, false), ev_succ ?_⟩
      simp only [impl_ParseNumber.l0, if_pos (show (i : Int) < (s.size : Int) by omega), if_pos (nn _), if_pos c1]
      exact Ev.now _
    · by_cases c2 : bt s (i : Int) > 57
      · refine ⟨(0, false), ev_succ ?_⟩
        simp only [impl_ParseNumber.l0, if_pos (show (i : Int) < (s.size : Int) by omega), if_pos (nn _), if_neg c1, if_pos c2]
        exact Ev.now _
      · obtain ⟨r, e⟩ := ih (i + 1) (wrap64 ((wrap64 (10 * x)) + ((bt s (i : Int) - 48) % 256))) (by omega)
        refine ⟨r, ev_succ ?_⟩
        simp only [impl_ParseNumber.l0, if_pos (show (i : Int) < (s.size : Int) by omega), if_pos (nn _), if_neg c1, if_neg c2]
        rw [show wrap64 ((i : Int) + 1) = ((i + 1 : Nat) : Int) by unfold wrap64; omega]
        exact e
theorem impl_PN_j0_tot (s : ByteArray) (hs : s.size < 4611686018427387904) (b : Bool) : ∃ r, Ev (fun k => impl_ParseNumber.j0 k s b) r := by
  cases b
  · obtain ⟨r, e⟩ := impl_PN_l0_tot s hs s.size 0 0 (by omega)
    refine ⟨r, ev_succ ?_⟩
    simp only [impl_ParseNumber.j0, Bool.false_eq_true, if_false]
    exact e
  · refine ⟨((0 : Int), false), ev_succ ?_⟩
    simp only [impl_ParseNumber.j0, if_true]
    exact Ev.now _
theorem impl_ParseNumber_tot (s : ByteArray) (hs : s.size < 4611686018427387904) : ∃ r, Ev (fun k => impl_ParseNumber.f k s) r := by
  by_cases c1 : (s.size : Int) = 0
  · obtain ⟨r, e⟩ := impl_PN_j0_tot s hs true
    refine ⟨r, ?_⟩
    simp only [impl_ParseNumber.f, if_pos c1]; exact e
  · by_cases c2 : (s.size : Int) > 3
    · obtain ⟨r, e⟩ := impl_PN_j0_tot s hs true
      refine ⟨r, ?_⟩
      simp only [impl_ParseNumber.f, if_neg c1, if_pos c2]; exact e
    · by_cases c3 : (s.size : Int) > 1
      · obtain ⟨r, e⟩ := impl_PN_j0_tot s hs (bt s 0 == 48)
        refine ⟨r, ?_⟩
        simp only [impl_ParseNumber.f, if_neg c1, if_neg c2, if_pos c3, if_pos (show 0 < (s.size : Int) by omega)]; exact e
      · obtain ⟨r, e⟩ := impl_PN_j0_tot s hs false
        refine ⟨r, ?_⟩
        simp only [impl_ParseNumber.f, if_neg c1, if_neg c2, if_neg c3]; exact e
theorem impl_PN_step {s : ByteArray} {i d : Nat} {x : Int} {r : Int × Bool} (hi : i < s.size) (hi2 : i < 100) (hb : bt s (i : Int) = ((48 + d : Nat) : Int)) (hd : d < 10) (hx0 : 0 ≤ x) (hx : x ≤ 1000000)
    (h : Ev (fun k => impl_ParseNumber.l0 k s (10 * x + (d : Int)) (s.size : Int) ((i + 1 : Nat) : Int)) r) : Ev (fun k => impl_ParseNumber.l0 k s x (s.size : Int) (i : Int)) r := by
  refine ev_succ ?_
  simp only [impl_ParseNumber.l0, if_pos (show (i : Int) < (s.size : Int) by omega), if_pos (nn _), hb, if_neg (show ¬ ((48 + d : Nat) : Int) < 48 by omega), if_neg (show ¬ ((48 + d : Nat) : Int) > 57 by omega)]
  rw [show wrap64 ((i : Int) + 1) = ((i + 1 : Nat) : Int) by unfold wrap64; omega, show wrap64 (wrap64 (10 * x) + (((48 + d : Nat) : Int) - 48) % 256) = 10 * x + (d : Int) by unfold wrap64; omega]
  exact h
theorem impl_PN_end {s : ByteArray} {x : Int} : Ev (fun k => impl_ParseNumber.l0 k s x (s.size : Int) (s.size : Int)) (x, true) := by
  refine ev_succ ?_
  simp only [impl_ParseNumber.l0, if_neg (show ¬ (s.size : Int) < (s.size : Int) by omega)]
  exact Ev.now _
theorem impl_PN_j0 {s : ByteArray} {r : Int × Bool} (h : Ev (fun k => impl_ParseNumber.l0 k s 0 (s.size : Int) ((0 : Nat) : Int)) r) : Ev (fun k => impl_ParseNumber.j0 k s false) r := by
  refine ev_succ ?_
  simp only [impl_ParseNumber.j0, Bool.false_eq_true, if_false]
  exact h
theorem impl_ParseNumber_num (n : Nat) (h : n ≤ 999) : Ev (fun k => impl_ParseNumber.f k (pNum (n : Int))) ((n : Int), true) := by
  rcases num_cases n h with ⟨h1, e⟩ | ⟨h1, h2, e⟩ | ⟨h1, e⟩
  · rw [e]
    have hz : (⟨#[ud n]⟩ : ByteArray).size = 1 := rfl
    have b0 : bt (⟨#[ud n]⟩ : ByteArray) ((0 : Nat) : Int) = ((48 + n : Nat) : Int) := by rw [show ((0 : Nat) : Int) = 0 from rfl, bt_1, ud_nat h1]
    simp only [impl_ParseNumber.f, hz, if_neg (show ¬ ((1 : Nat) : Int) = 0 by omega), if_neg (show ¬ ((1 : Nat) : Int) > 3 by omega), if_neg (show ¬ ((1 : Nat) : Int) > 1 by omega)]
    refine impl_PN_j0 (impl_PN_step (by omega) (by omega) b0 h1 (by omega) (by omega) ?_)
    rw [show 10 * (0 : Int) + (n : Int) = (n : Int) by omega]
    exact impl_PN_end
  · rw [e]
    have hz : (⟨#[ud (n / 10), ud (n % 10)]⟩ : ByteArray).size = 2 := rfl
    obtain ⟨t0, t1⟩ := bt_2 (ud (n / 10)) (ud (n % 10))
    rw [ud_nat (show n / 10 < 10 by omega)] at t0
    rw [ud_nat (show n % 10 < 10 by omega)] at t1
    simp only [impl_ParseNumber.f, hz, t0, if_neg (show ¬ ((2 : Nat) : Int) = 0 by omega), if_neg (show ¬ ((2 : Nat) : Int) > 3 by omega), if_pos (show ((2 : Nat) : Int) > 1 by omega), if_pos (show (0 : Int) < ((2 : Nat) : Int) by omega)]
    rw [show (((48 + n / 10 : Nat) : Int) == 48) = false by rw [beq_eq_false_iff_ne]; omega]
    refine impl_PN_j0 (impl_PN_step (by omega) (by omega) t0 (by omega) (by omega) (by omega) (impl_PN_step (by omega) (by omega) t1 (by omega) (by omega) (by omega) ?_))
    rw [show 10 * (10 * (0 : Int) + ((n / 10 : Nat) : Int)) + ((n % 10 : Nat) : Int) = (n : Int) by omega]
    exact impl_PN_end
  · rw [e]
    have hz : (⟨#[ud (n / 100), ud (n / 10 % 10), ud (n % 10)]⟩ : ByteArray).size = 3 := rfl
    obtain ⟨t0, t1, t2⟩ := bt_3 (ud (n / 100)) (ud (n / 10 % 10)) (ud (n % 10))
    rw [ud_nat (show n / 100 < 10 by omega)] at t0
    rw [ud_nat (show n / 10 % 10 < 10 by omega)] at t1
    rw [ud_nat (show n % 10 < 10 by omega)] at t2
    simp only [impl_ParseNumber.f, hz, t0, if_neg (show ¬ ((3 : Nat) : Int) = 0 by omega), if_neg (show ¬ ((3 : Nat) : Int) > 3 by omega), if_pos (show ((3 : Nat) : Int) > 1 by omega), if_pos (show (0 : Int) < ((3 : Nat) : Int) by omega)]
    rw [show (((48 + n / 100 : Nat) : Int) == 48) = false by rw [beq_eq_false_iff_ne]; omega]
    refine impl_PN_j0 (impl_PN_step (by omega) (by omega) t0 (by omega) (by omega) (by omega) (impl_PN_step (by omega) (by omega) t1 (by omega) (by omega) (by omega) (impl_PN_step (by omega) (by omega) t2 (by omega) (by omega) (by omega) ?_)))
    rw [show 10 * (10 * (10 * (0 : Int) + ((n / 100 : Nat) : Int)) + ((n / 10 % 10 : Nat) : Int)) + ((n % 10 : Nat) : Int) = (n : Int) by omega]
    exact impl_PN_end
theorem ba_ext {a b : ByteArray} (h : a.data.toList = b.data.toList) : a = b := by
  obtain ⟨x⟩ := a
  obtain ⟨y⟩ := b
  exact congrArg ByteArray.mk (Array.toList_inj.1 h)
theorem ba_tl (a : ByteArray) : a.toList = a.data.toList := ByteArray.toList_eq a
theorem ba_sz (a : ByteArray) : a.data.toList.length = a.size := by rw [Array.length_toList]; rfl
theorem bt_head {h : ByteArray} {b : UInt8} {l : List UInt8} (e : h.data.toList = b :: l) : bt h 0 = (b.toNat : Int) := by
  obtain ⟨⟨x⟩⟩ := h
  change x = b :: l at e
  subst e
  rfl
def sgnl (x : Int) : List UInt8 := if x < 0 then [45] else []
theorem sgnT_list (x : Int) : (sgnT x).data.toList = sgnl x := by
  unfold sgnT sgnl; split <;> rfl
/-- The digits before the point. -/
def numl (x : Int) : List UInt8 := (pNum ((x.natAbs / 8 : Nat) : Int)).data.toList
def fracl (x : Int) : List UInt8 := (fracT (x.natAbs % 8)).data.toList
theorem pFmt_list {x : Int} (h0 : -4096 ≤ x) (h1 : x ≤ 4096) : (pFmt x).data.toList = sgnl x ++ (numl x ++ fracl x) := by
  unfold pFmt
  rw [if_pos ⟨h0, h1⟩, ByteArray.data_append, ByteArray.data_append, Array.toList_append, Array.toList_append, sgnT_list, List.append_assoc]; rfl
theorem fracT_cases (r : Nat) (h : r < 8) : ((fracT r).data.toList = [] ∧ r = 0) ∨ ∃ f, (fracT r).data.toList = 46 :: f ∧ f.length ≤ 3 ∧ (∀ b ∈ f, 48 ≤ b.toNat ∧ b.toNat ≤ 57) := by
  have : r = 0 ∨ r = 1 ∨ r = 2 ∨ r = 3 ∨ r = 4 ∨ r = 5 ∨ r = 6 ∨ r = 7 := by omega
  rcases this with rfl | rfl | rfl | rfl | rfl | rfl | rfl | rfl
  · exact .inl ⟨rfl, rfl⟩
  · exact .inr ⟨[49, 50, 53], rfl, by decide, by decide⟩
  · exact .inr ⟨[50, 53], rfl, by decide, by decide⟩
  · exact .inr ⟨[51, 55, 53], rfl, by decide, by decide⟩
  · exact .inr ⟨[53], rfl, by decide, by decide⟩
  · exact .inr ⟨[54, 50, 53], rfl, by decide, by decide⟩
  · exact .inr ⟨[55, 53], rfl, by decide, by decide⟩
  · exact .inr ⟨[56, 55, 53], rfl, by decide, by decide⟩
theorem fracT_inj {r q : Nat} (hr : r < 8) (hq : q < 8) (h : (fracT r).data.toList = (fracT q).data.toList) : r = q := by
  have key : ∀ a b : Fin 8, (fracT a.val).data.toList = (fracT b.val).data.toList → a = b := by decide
  exact congrArg Fin.val (key ⟨r, hr⟩ ⟨q, hq⟩ h)
def isD (b : UInt8) : Bool := decide (48 ≤ b.toNat) && decide (b.toNat ≤ 57)
theorem numl_D (x : Int) : ∀ b ∈ numl x, isD b = true := fun b hb => by
  have := num_digits _ b hb
  unfold isD; rw [decide_eq_true this.1, decide_eq_true this.2]; rfl
theorem numl_ne (x : Int) : numl x ≠ [] := num_ne _
theorem fracl_D (x : Int) : (fracl x).takeWhile isD = [] := by
  rcases fracT_cases (x.natAbs % 8) (by omega) with ⟨h, _⟩ | ⟨f, h, _⟩
  · unfold fracl; rw [h]; rfl
  · unfold fracl; rw [h]; rfl
theorem nf_take (x : Int) : (numl x ++ fracl x).takeWhile isD = numl x := by
  rw [List.takeWhile_append_of_pos (numl_D x), fracl_D, List.append_nil]
theorem numl_head (x : Int) : ∃ b l, numl x = b :: l ∧ ¬ b = 45 := by
  cases h : numl x with
  | nil => exact absurd h (numl_ne x)
  | cons b l =>
    refine ⟨b, l, rfl, fun e => ?_⟩
    have := numl_D x b (by rw [h]; simp)
    rw [e] at this; exact absurd this (by decide)
/-- One text, one measure. -/
theorem pFmt_inj {x z : Int} (h0 : -4096 ≤ x) (h1 : x ≤ 4096) (h : (pFmt z).toList = (pFmt x).toList) : z = x := by
  rw [ba_tl, ba_tl, pFmt_list h0 h1] at h
  by_cases hz : -4096 ≤ z ∧ z ≤ 4096
  · rw [pFmt_list hz.1 hz.2] at h
    obtain ⟨b, l, e1, e2⟩ := numl_head x
    obtain ⟨b', l', e1', e2'⟩ := numl_head z
    have fin : numl z ++ fracl z = numl x ++ fracl x → x.natAbs = z.natAbs := by
      intro hh
      have h3 : numl z = numl x := by rw [← nf_take z, hh, nf_take]
      rw [h3] at hh
      have h4 : fracl z = fracl x := List.append_cancel_left hh
      have h5 : z.natAbs / 8 = x.natAbs / 8 := by
        have a := dvl_num (z.natAbs / 8)
        have b := dvl_num (x.natAbs / 8)
        unfold numl at h3
        rw [h3, b] at a; omega
      have h6 : z.natAbs % 8 = x.natAbs % 8 := fracT_inj (by omega) (by omega) h4
      omega
    unfold sgnl at h
    by_cases c : z < 0 <;> by_cases c' : x < 0
    · rw [if_pos c, if_pos c'] at h
      have := fin (List.append_cancel_left h)
      omega
    · rw [if_pos c, if_neg c', e1] at h
      simp at h
      exact absurd h.1.symm e2
    · rw [if_neg c, if_pos c', e1'] at h
      simp at h
      exact absurd h.1 e2'
    · rw [if_neg c, if_neg c'] at h
      have := fin (List.append_cancel_left h)
      omega
  · exfalso
    unfold pFmt at h
    rw [if_neg hz] at h
    have h2 := congrArg List.length h
    have h3 : numl x ≠ [] := numl_ne x
    have h4 := List.length_pos_iff.2 h3
    simp only [List.length_append] at h2
    change 0 = _ at h2
    omega
theorem dot_num (x : Int) : (46 : UInt8) ∉ sgnl x ++ numl x := by
  intro h
  rcases List.mem_append.1 h with h | h
  · unfold sgnl at h; split at h
    · simp at h
    · cases h
  · have := numl_D x 46 h; exact absurd this (by decide)
theorem cut_dot (x : Int) : ∃ f b, Go.Lib.cut (numl x ++ fracl x) [46] = (numl x, f, b) ∧ f.length ≤ 3 := by
  have hn : (46 : UInt8) ∉ numl x := fun h => dot_num x (List.mem_append.2 (.inr h))
  rcases fracT_cases (x.natAbs % 8) (by omega) with ⟨h, _⟩ | ⟨f, h, hf, _⟩
  · refine ⟨[], false, ?_, by simp⟩
    have e : fracl x = [] := h
    rw [e, List.append_nil]
    unfold Go.Lib.cut
    rw [index_none _ hn, if_neg (by omega)]
  · refine ⟨f, true, ?_, hf⟩
    have e : fracl x = 46 :: f := h
    rw [e]
    unfold Go.Lib.cut
    rw [index_one _ _ hn, if_pos (by omega)]
    simp [List.drop_append]
theorem impl_PM_l1 (s : ByteArray) (x9 x34 p q : Int) (r : Int × Bool)
    (h : ((pFmt p).toList = s.toList ∧ r = (p, true)) ∨ (¬ (pFmt p).toList = s.toList ∧ (pFmt q).toList = s.toList ∧ r = (q, true)) ∨ (¬ (pFmt p).toList = s.toList ∧ ¬ (pFmt q).toList = s.toList ∧ Ev (fun k => impl_ParseMeasure.l0 k s x9 (wrap64 (x34 + 1))) r)) :
    Ev (fun k => impl_ParseMeasure.l1 k s x9 x34 [p, q] 2 0) r := by
  have r0 : rd [p, q] 0 = p := rfl
  have r1 : rd [p, q] 1 = q := rfl
  have w1 : wrap64 ((0 : Int) + 1) = 1 := by unfold wrap64; omega
  have w2 : wrap64 ((1 : Int) + 1) = 2 := by unfold wrap64; omega
  have l2 : (([p, q] : List Int).length : Int) = 2 := rfl
  rcases h with ⟨h, rfl⟩ | ⟨h, h', rfl⟩ | ⟨h, h', e⟩
  · refine ev_succ ?_
    simp only [impl_ParseMeasure.l1, l2, r0, if_pos (show (0 : Int) < 2 by omega), if_pos (show (0 : Int) ≤ 0 by omega)]
    refine Ev.bind (impl_FormatMeasure_ev p) ?_
    simp only [if_pos h]; exact Ev.now _
  · refine ev_succ ?_
    simp only [impl_ParseMeasure.l1, l2, r0, if_pos (show (0 : Int) < 2 by omega), if_pos (show (0 : Int) ≤ 0 by omega), w1]
    refine Ev.bind (impl_FormatMeasure_ev p) ?_
    simp only [if_neg h]
    refine ev_succ ?_
    simp only [impl_ParseMeasure.l1, l2, r1, if_pos (show (1 : Int) < 2 by omega), if_pos (show (0 : Int) ≤ 1 by omega)]
    refine Ev.bind (impl_FormatMeasure_ev q) ?_
    simp only [if_pos h']; exact Ev.now _
  · refine ev_succ ?_
    simp only [impl_ParseMeasure.l1, l2, r0, if_pos (show (0 : Int) < 2 by omega), if_pos (show (0 : Int) ≤ 0 by omega), w1]
    refine Ev.bind (impl_FormatMeasure_ev p) ?_
    simp only [if_neg h]
    refine ev_succ ?_
    simp only [impl_ParseMeasure.l1, l2, r1, if_pos (show (1 : Int) < 2 by omega), if_pos (show (0 : Int) ≤ 1 by omega), w2]
    refine Ev.bind (impl_FormatMeasure_ev q) ?_
    simp only [if_neg h']
    refine ev_succ ?_
    simp only [impl_ParseMeasure.l1, if_neg (show ¬ (2 : Int) < 2 by omega)]
    exact e
theorem impl_PM_l0_tot (s : ByteArray) (x9 : Int) : ∀ (d i : Nat), i + d = 8 → ∃ r, Ev (fun k => impl_ParseMeasure.l0 k s x9 (i : Int)) r := by
  intro d
  induction d with
  | zero =>
    intro i h
    refine ⟨((0 : Int), false), ev_succ ?_⟩
    simp only [impl_ParseMeasure.l0, if_neg (show ¬ (i : Int) < 8 by omega)]
    exact Ev.now _
  | succ d ih =>
    intro i h
    have hw : wrap64 ((i : Int) + 1) = ((i + 1 : Nat) : Int) := by unfold wrap64; omega
    obtain ⟨r', e'⟩ := ih (i + 1) (by omega)
    have l2 : ∀ a b : Int, (([a, b] : List Int).length : Int) = 2 := fun _ _ => rfl
    have main : ∃ r, Ev (fun k => impl_ParseMeasure.l1 k s x9 (i : Int) [wrap64 (x9 + (i : Int)), wrap64 ((wrap64 (-x9)) - (i : Int))] 2 0) r := by
      by_cases c1 : (pFmt (wrap64 (x9 + (i : Int)))).toList = s.toList
      · exact ⟨_, impl_PM_l1 s _ _ _ _ _ (.inl ⟨c1, rfl⟩)⟩
      · by_cases c2 : (pFmt (wrap64 ((wrap64 (-x9)) - (i : Int)))).toList = s.toList
        · exact ⟨_, impl_PM_l1 s _ _ _ _ _ (.inr (.inl ⟨c1, c2, rfl⟩))⟩
        · exact ⟨r', impl_PM_l1 s _ _ _ _ _ (.inr (.inr ⟨c1, c2, by rw [hw]; exact e'⟩))⟩
    obtain ⟨r, e⟩ := main
    refine ⟨r, ev_succ ?_⟩
    simp only [impl_ParseMeasure.l0, if_pos (show (i : Int) < 8 by omega), Option.bind_some, l2]
    exact e
theorem impl_PM_l0 {s : ByteArray} {x : Int} (h0 : -4096 ≤ x) (h1 : x ≤ 4096) (hs : s = pFmt x) : ∀ (d i : Nat), i + d = x.natAbs % 8 → Ev (fun k => impl_ParseMeasure.l0 k s ((8 * (x.natAbs / 8) : Nat) : Int) (i : Int)) (x, true) := by
  intro d
  induction d with
  | zero =>
    intro i h
    have l2 : ∀ a b : Int, (([a, b] : List Int).length : Int) = 2 := fun _ _ => rfl
    refine ev_succ ?_
    simp only [impl_ParseMeasure.l0, if_pos (show (i : Int) < 8 by omega), Option.bind_some, l2]
    rw [show wrap64 (((8 * (x.natAbs / 8) : Nat) : Int) + (i : Int)) = (x.natAbs : Int) by unfold wrap64; omega, show wrap64 (wrap64 (-((8 * (x.natAbs / 8) : Nat) : Int)) - (i : Int)) = -(x.natAbs : Int) by unfold wrap64; omega]
    by_cases c : x < 0
    · refine impl_PM_l1 s _ _ _ _ _ (.inr (.inl ⟨fun e => ?_, ?_, ?_⟩))
      · have := pFmt_inj h0 h1 (e.trans (by rw [hs])); omega
      · rw [show -(x.natAbs : Int) = x by omega, hs]
      · rw [show -(x.natAbs : Int) = x by omega]
    · refine impl_PM_l1 s _ _ _ _ _ (.inl ⟨?_, ?_⟩)
      · rw [show (x.natAbs : Int) = x by omega, hs]
      · rw [show (x.natAbs : Int) = x by omega]
  | succ d ih =>
    intro i h
    have l2 : ∀ a b : Int, (([a, b] : List Int).length : Int) = 2 := fun _ _ => rfl
    refine ev_succ ?_
    simp only [impl_ParseMeasure.l0, if_pos (show (i : Int) < 8 by omega), Option.bind_some, l2]
    rw [show wrap64 (((8 * (x.natAbs / 8) : Nat) : Int) + (i : Int)) = ((8 * (x.natAbs / 8) + i : Nat) : Int) by unfold wrap64; omega, show wrap64 (wrap64 (-((8 * (x.natAbs / 8) : Nat) : Int)) - (i : Int)) = -((8 * (x.natAbs / 8) + i : Nat) : Int) by unfold wrap64; omega]
    refine impl_PM_l1 s _ _ _ _ _ (.inr (.inr ⟨fun e => ?_, fun e => ?_, ?_⟩))
    · have := pFmt_inj h0 h1 (e.trans (by rw [hs])); omega
    · have := pFmt_inj h0 h1 (e.trans (by rw [hs])); omega
    · rw [show wrap64 ((i : Int) + 1) = ((i + 1 : Nat) : Int) by unfold wrap64; omega]
      exact ih (i + 1) (by omega)
theorem impl_PM_j0_tot (s : ByteArray) (n : Int) (b : Bool) : ∃ r, Ev (fun k => impl_ParseMeasure.j0 k s n b) r := by
  cases b
  · obtain ⟨r, e⟩ := impl_PM_l0_tot s (wrap64 (8 * n)) 8 0 (by omega)
    refine ⟨r, ev_succ ?_⟩
    simp only [impl_ParseMeasure.j0, Bool.false_eq_true, if_false]
    exact e
  · refine ⟨((0 : Int), false), ev_succ ?_⟩
    simp only [impl_ParseMeasure.j0, if_true]
    exact Ev.now _
theorem cut_le (l sep : List UInt8) : (Go.Lib.cut l sep).1.length ≤ l.length := by
  unfold Go.Lib.cut; split
  · simp; omega
  · simp
theorem trimPrefix_le (l p : List UInt8) : (Go.Lib.trimPrefix l p).length ≤ l.length := by
  unfold Go.Lib.trimPrefix; split <;> simp
theorem impl_ParseMeasure_tot (s : ByteArray) (hs : s.size < 4294967281) : ∃ r, Ev (fun k => impl_ParseMeasure.f k s) r := by
  have ht := trimPrefix_le s.data.toList [45]
  rw [ba_sz] at ht
  have hc := cut_le (Go.Lib.trimPrefix s.data.toList [45]) [46]
  obtain ⟨pn, epn⟩ := impl_ParseNumber_tot (⟨(Go.Lib.cut (Go.Lib.trimPrefix s.data.toList [45]) [46]).1.toArray⟩ : ByteArray) (by show (Array.size _) < _; rw [List.size_toArray]; omega)
  have hz : (⟨(Go.Lib.trimPrefix s.data.toList [45]).toArray⟩ : ByteArray).size < 4294967281 := by show (Array.size _) < _; rw [List.size_toArray]; omega
  by_cases c : pn.2 = true
  · obtain ⟨r, e⟩ := impl_PM_j0_tot s pn.1 (decide (((⟨(Go.Lib.cut (Go.Lib.trimPrefix s.data.toList [45]) [46]).2.1.toArray⟩ : ByteArray).size : Int) > 3))
    refine ⟨r, ?_⟩
    simp only [impl_ParseMeasure.f, strings_TrimPrefix.f, strings_Cut.f, Option.bind_some, if_pos hz]
    refine Ev.bind epn ?_
    simp only [if_pos c]
    exact e
  · obtain ⟨r, e⟩ := impl_PM_j0_tot s pn.1 true
    refine ⟨r, ?_⟩
    simp only [impl_ParseMeasure.f, strings_TrimPrefix.f, strings_Cut.f, Option.bind_some, if_pos hz]
    refine Ev.bind epn ?_
    simp only [if_neg c]
    exact e
theorem impl_ParseMeasure_fmt {x : Int} (h0 : -4096 ≤ x) (h1 : x ≤ 4096) : Ev (fun k => impl_ParseMeasure.f k (pFmt x)) (x, true) := by
  have hl := pFmt_list h0 h1
  have ht : Go.Lib.trimPrefix (pFmt x).data.toList [45] = numl x ++ fracl x := by
    rw [hl]
    unfold Go.Lib.trimPrefix Go.Lib.hasPrefix sgnl
    obtain ⟨b, l, e1, e2⟩ := numl_head x
    by_cases c : x < 0
    · rw [if_pos c]; simp [List.isPrefixOf]
    · rw [if_neg c, e1]
      simp [List.isPrefixOf, Ne.symm e2]
  obtain ⟨f, b, hc, hf⟩ := cut_dot x
  have hsz := pFmt_size x
  have hln : (numl x ++ fracl x).length ≤ 1000 := by
    have := congrArg List.length hl
    rw [ba_sz, List.length_append] at this; omega
  have hz : (⟨(numl x ++ fracl x).toArray⟩ : ByteArray).size < 4294967281 := by show (Array.size _) < _; rw [List.size_toArray]; omega
  have hn : (⟨(numl x).toArray⟩ : ByteArray) = pNum ((x.natAbs / 8 : Nat) : Int) := ba_ext rfl
  have hfz : (⟨f.toArray⟩ : ByteArray).size ≤ 3 := by show (Array.size _) ≤ _; rw [List.size_toArray]; exact hf
  simp only [impl_ParseMeasure.f, strings_TrimPrefix.f, strings_Cut.f, Option.bind_some, ht, if_pos hz, hc, hn]
  refine Ev.bind (impl_ParseNumber_num (x.natAbs / 8) (by omega)) ?_
  simp only [if_true]
  rw [decide_eq_false (show ¬ ((⟨f.toArray⟩ : ByteArray).size : Int) > 3 by omega)]
  refine ev_succ ?_
  simp only [impl_ParseMeasure.j0, Bool.false_eq_true, if_false]
  rw [show wrap64 (8 * ((x.natAbs / 8 : Nat) : Int)) = ((8 * (x.natAbs / 8) : Nat) : Int) by unfold wrap64; omega]
  exact impl_PM_l0 h0 h1 rfl (x.natAbs % 8) 0 (by omega)
theorem nmR_bytes {a : ByteArray} : ∀ (d i : Nat), i + d = a.size → nmR a d i = true → ∀ j, i ≤ j → j < a.size → 48 ≤ bt a (j : Int) ∧ bt a (j : Int) ≤ 122
  | 0, i, h, _, j, h1, h2 => by omega
  | d + 1, i, h, hn, j, h1, h2 => by
    unfold nmR at hn
    rw [Bool.and_eq_true] at hn
    by_cases e : j = i
    · subst e
      have := hn.1
      simp only [nmC, Bool.or_eq_true, Bool.and_eq_true, decide_eq_true_eq] at this
      omega
    · exact nmR_bytes d (i + 1) (by omega) hn.2 j (by omega) h2
/-- A name has neither a blank nor a point. -/
theorem name_bytes {a : ByteArray} (h : pName a = true) : ∀ b ∈ a.data.toList, 48 ≤ b.toNat := by
  intro b hb
  obtain ⟨j, hj, e⟩ := List.mem_iff_getElem.1 hb
  have hj' : j < a.size := by rw [← ba_sz]; exact hj
  have := nmR_bytes a.size 0 (by omega) h j (by omega) hj'
  unfold bt at this
  rw [dif_pos (show (j : Int).toNat < a.size by rw [Int.toNat_natCast]; exact hj')] at this
  have e2 : a[(j : Int).toNat]'(by rw [Int.toNat_natCast]; exact hj') = b := by
    rw [← e]; rfl
  rw [e2] at this
  omega
theorem no_blank {l : List UInt8} (h : ∀ b ∈ l, 33 ≤ b.toNat) : (32 : UInt8) ∉ l := fun m => by
  have := h _ m
  exact absurd this (by decide)
theorem fmt_bytes (x : Int) : ∀ b ∈ (pFmt x).data.toList, 33 ≤ b.toNat := by
  intro b hb
  by_cases h : -4096 ≤ x ∧ x ≤ 4096
  · rw [pFmt_list h.1 h.2] at hb
    rcases List.mem_append.1 hb with hb | hb
    · unfold sgnl at hb
      split at hb
      · rw [List.mem_singleton] at hb; subst hb; decide
      · cases hb
    · rcases List.mem_append.1 hb with hb | hb
      · have := num_digits _ b hb; omega
      · rcases fracT_cases (x.natAbs % 8) (by omega) with ⟨e, _⟩ | ⟨f, e, _, hf⟩
        · unfold fracl at hb; rw [e] at hb; cases hb
        · unfold fracl at hb; rw [e] at hb
          rcases List.mem_cons.1 hb with rfl | hb
          · decide
          · have := hf b hb; omega
  · unfold pFmt at hb; rw [if_neg h] at hb; cases hb
theorem num_bytes (n : Nat) : ∀ b ∈ (pNum (n : Int)).data.toList, 33 ≤ b.toNat := fun b hb => by have := num_digits n b hb; omega
theorem pCueB_list (t : Int) (n : ByteArray) (v : Int) : (pCueB t n v).data.toList = (pNum t).data.toList ++ 32 :: (n.data.toList ++ 32 :: (pFmt v).data.toList) := by
  unfold pCueB
  simp only [ByteArray.data_append, Array.toList_append, List.append_assoc]; rfl
/-- The words of a cue's text. -/
theorem cue_words {t : Int} {n : ByteArray} {v r : Int} (h : pCue t n v r = true) : splA 32 [] (pCueT t n v r).data.toList =
    (if r = 0 then [(pNum t).data.toList, n.data.toList, (pFmt v).data.toList] else [(pNum t).data.toList, n.data.toList, (pFmt v).data.toList, [105, 110], (pNum r).data.toList]) := by
  obtain ⟨⟨t0, t1⟩, hs, r0, r1⟩ := pCue_num h
  have hn : ∀ b ∈ n.data.toList, 33 ≤ b.toNat := by
    have hp : pName n = true := by simp only [pCue, Bool.and_eq_true] at h; exact h.2.1
    intro b hb; have := name_bytes hp b hb; omega
  have ht : ∀ b ∈ (pNum t).data.toList, 33 ≤ b.toNat := by
    rw [show t = ((t.toNat : Nat) : Int) by omega]; exact num_bytes _
  have hr : ∀ b ∈ (pNum r).data.toList, 33 ≤ b.toNat := by
    rw [show r = ((r.toNat : Nat) : Int) by omega]; exact num_bytes _
  unfold pCueT
  rw [if_pos h]
  by_cases c : r = 0
  · rw [if_pos c, if_pos c, pCueB_list, splA_word _ _ _ _ (no_blank ht), splA_word _ _ _ _ (no_blank hn), splA_last _ _ _ (no_blank (fmt_bytes v))]
    rfl
  · rw [if_neg c, if_neg c, ByteArray.data_append, ByteArray.data_append, Array.toList_append, Array.toList_append, pCueB_list]
    have e : (pNum t).data.toList ++ 32 :: (n.data.toList ++ 32 :: (pFmt v).data.toList) ++ ((⟨#[32, 105, 110, 32]⟩ : ByteArray).data.toList ++ (pNum r).data.toList) = (pNum t).data.toList ++ 32 :: (n.data.toList ++ 32 :: ((pFmt v).data.toList ++ 32 :: ([105, 110] ++ 32 :: (pNum r).data.toList))) := by
      simp only [List.append_assoc, List.cons_append]; rfl
    rw [e, splA_word _ _ _ _ (no_blank ht), splA_word _ _ _ _ (no_blank hn), splA_word _ _ _ _ (no_blank (fmt_bytes v)), splA_word _ _ _ _ (by decide), splA_last _ _ _ (no_blank hr)]
    rfl
theorem three_of {L : List ByteArray} {a b c : List UInt8} (h : L.map (fun x => x.data.toList) = [a, b, c]) : ∃ x y z, L = [x, y, z] ∧ x.data.toList = a ∧ y.data.toList = b ∧ z.data.toList = c := by
  obtain ⟨x, t, rfl, h1, h2⟩ := head_of h
  obtain ⟨y, t2, rfl, h3, h4⟩ := head_of h2
  obtain ⟨z, t3, rfl, h5, h6⟩ := head_of h4
  have : t3 = [] := List.map_eq_nil_iff.1 h6
  subst this
  exact ⟨x, y, z, rfl, h1, h3, h5⟩
theorem five_of {L : List ByteArray} {a b c d e : List UInt8} (h : L.map (fun x => x.data.toList) = [a, b, c, d, e]) : ∃ x y z u v, L = [x, y, z, u, v] ∧ x.data.toList = a ∧ y.data.toList = b ∧ z.data.toList = c ∧ v.data.toList = e := by
  obtain ⟨x, t, rfl, h1, h2⟩ := head_of h
  obtain ⟨y, t2, rfl, h3, h4⟩ := head_of h2
  obtain ⟨z, t3, rfl, h5, h6⟩ := head_of h4
  obtain ⟨u, t4, rfl, h7, h8⟩ := head_of h6
  obtain ⟨v, t5, rfl, h9, h10⟩ := head_of h8
  have : t5 = [] := List.map_eq_nil_iff.1 h10
  subst this
  exact ⟨x, y, z, u, v, rfl, h1, h3, h5, h9⟩
theorem pCueT_size (t : Int) (n : ByteArray) (v r : Int) : (pCueT t n v r).size ≤ 1000000 := by
  unfold pCueT
  split
  · rename_i h
    obtain ⟨⟨t0, t1⟩, hs, r0, r1⟩ := pCue_num h
    have ht := pNum_sz t t0 (by omega)
    have hr := pNum_sz r r0 (by omega)
    have hv := pFmt_size v
    have z1 : (⟨#[32]⟩ : ByteArray).size = 1 := rfl
    have z4 : (⟨#[32, 105, 110, 32]⟩ : ByteArray).size = 4 := rfl
    unfold pCueB
    split <;> simp only [ByteArray.size_append] <;> omega
  · show 0 ≤ 1000000
    omega
theorem pCue_level {t : Int} {n : ByteArray} {v r : Int} (h : pCue t n v r = true) : 0 ≤ v ∧ v ≤ 32 := by
  simp only [pCue, Bool.and_eq_true, decide_eq_true_eq] at h; exact h.2.2.1
/-- What a parser of cues returns is a cue of that text, or nothing. -/
def cueRes (s : ByteArray) (r : Int × ByteArray × Int × Int × Bool) : Prop := (r = (0, (⟨#[]⟩ : ByteArray), 0, 0, false)) ∨ (r.2.2.2.2 = true ∧ pCue r.1 r.2.1 r.2.2.1 r.2.2.2.1 = true ∧ (pCueT r.1 r.2.1 r.2.2.1 r.2.2.2.1).toList = s.toList)
theorem cueRes_mk {s : ByteArray} {t v r : Int} {n : ByteArray} (h : (pCueT t n v r).toList = s.toList) (hs : ¬ s.toList = ([] : List UInt8)) : cueRes s (t, n, v, r, true) := by
  refine .inr ⟨rfl, ?_, h⟩
  by_cases c : pCue t n v r = true
  · exact c
  · unfold pCueT at h
    rw [if_neg c] at h
    exact absurd h.symm (by rw [ba_tl (⟨#[]⟩ : ByteArray)]; exact hs)
theorem impl_ParseCue_sound (s : ByteArray) (hs : s.size < 4294967281) : ∃ r, Ev (fun k => impl_ParseCue.f k s) r ∧ cueRes s r := by
  obtain ⟨L, eL, hL⟩ := impl_SplitAt_eq s 32 hs
  have hwz : ∀ x ∈ L, x.size ≤ s.size := fun x hx => by
    have : x.data.toList ∈ splA 32 [] s.data.toList := by rw [← hL]; exact List.mem_map.2 ⟨x, hx, rfl⟩
    have := splA_len _ _ _ _ this
    rw [ba_sz, ba_sz] at this; simpa using this
  have rd : ∀ i : Nat, i < L.length → (rdOf ByteArray.empty L (i : Int)).size ≤ s.size := fun i hi => by
    refine hwz _ ?_
    unfold rdOf
    rw [Int.toNat_natCast, List.getD_eq_getElem?_getD, List.getElem?_eq_getElem hi, Option.getD_some]
    exact List.getElem_mem _
  have hne : 2 ≤ L.length → ¬ s.toList = ([] : List UInt8) := fun h2 e => by
    rw [ba_tl] at e
    rw [e] at hL
    have := congrArg List.length hL
    simp [splA] at this; omega
  simp only [impl_ParseCue.f, eL, Option.bind_some]
  have zero : cueRes s (0, (⟨#[]⟩ : ByteArray), 0, 0, false) := .inl rfl
  have key : L.length = 3 ∨ L.length = 5 → ∃ r, Ev (fun k => impl_ParseCue.j0 k s L false) r ∧ cueRes s r := by
    intro hl
    obtain ⟨a, ea⟩ := impl_ParseNumber_tot (rdOf ByteArray.empty L 0) (by have : (rdOf ByteArray.empty L 0).size ≤ s.size := rd 0 (by omega); omega)
    obtain ⟨b, eb⟩ := impl_ParseMeasure_tot (rdOf ByteArray.empty L 2) (by have : (rdOf ByteArray.empty L 2).size ≤ s.size := rd 2 (by omega); omega)
    have hz1 : (rdOf ByteArray.empty L 1).size ≤ 9223372036854775807 := by have : (rdOf ByteArray.empty L 1).size ≤ s.size := rd 1 (by omega); omega
    have hn := hne (by omega)
    by_cases c5 : L.length = 5
    · obtain ⟨c, ec⟩ := impl_ParseNumber_tot (rdOf ByteArray.empty L 4) (by have : (rdOf ByteArray.empty L 4).size ≤ s.size := rd 4 (by omega); omega)
      have pre : ∀ r, Ev (fun k => if a.2 = true then (if b.2 = true then (if c.2 = true then ((impl_FormatCue.f k a.1 (rdOf ByteArray.empty L 1) b.1 c.1).bind fun t158 => (if t158.toList = s.toList then (some (a.1, rdOf ByteArray.empty L 1, b.1, c.1, true)) else (some (0, (⟨#[]⟩ : ByteArray), 0, 0, false)))) else (some (0, (⟨#[]⟩ : ByteArray), 0, 0, false))) else (some (0, (⟨#[]⟩ : ByteArray), 0, 0, false))) else (some (0, (⟨#[]⟩ : ByteArray), 0, 0, false))) r → Ev (fun k => impl_ParseCue.j0 k s L false) r := by
        intro r e
        refine ev_succ ?_
        simp only [impl_ParseCue.j0, Bool.false_eq_true, if_false, if_pos (show 0 < (L.length : Int) by omega)]
        refine Ev.bind ea ?_
        simp only [if_pos (show 2 < (L.length : Int) by omega)]
        refine Ev.bind eb ?_
        simp only [if_pos (show (L.length : Int) = 5 by omega), if_pos (show 4 < (L.length : Int) by omega)]
        refine Ev.bind ec ?_
        simp only [if_pos (show 1 < (L.length : Int) by omega)]
        exact e
      by_cases c1 : a.2 = true
      · by_cases c2 : b.2 = true
        · by_cases c3 : c.2 = true
          · by_cases c4 : (pCueT a.1 (rdOf ByteArray.empty L 1) b.1 c.1).toList = s.toList
            · refine ⟨_, pre _ ?_, cueRes_mk c4 hn⟩
              simp only [if_pos c1, if_pos c2, if_pos c3]
              refine Ev.bind (impl_FormatCue_ev _ _ _ _ hz1) ?_
              simp only [if_pos c4]; exact Ev.now _
            · refine ⟨_, pre _ ?_, zero⟩
              simp only [if_pos c1, if_pos c2, if_pos c3]
              refine Ev.bind (impl_FormatCue_ev _ _ _ _ hz1) ?_
              simp only [if_neg c4]; exact Ev.now _
          · refine ⟨_, pre _ ?_, zero⟩
            simp only [if_pos c1, if_pos c2, if_neg c3]; exact Ev.now _
        · refine ⟨_, pre _ ?_, zero⟩
          simp only [if_pos c1, if_neg c2]; exact Ev.now _
      · refine ⟨_, pre _ ?_, zero⟩
        simp only [if_neg c1]; exact Ev.now _
    · have pre : ∀ r, Ev (fun k => if a.2 = true then (if b.2 = true then ((impl_FormatCue.f k a.1 (rdOf ByteArray.empty L 1) b.1 0).bind fun t161 => (if t161.toList = s.toList then (some (a.1, rdOf ByteArray.empty L 1, b.1, (0 : Int), true)) else (some (0, (⟨#[]⟩ : ByteArray), 0, 0, false)))) else (some (0, (⟨#[]⟩ : ByteArray), 0, 0, false))) else (some (0, (⟨#[]⟩ : ByteArray), 0, 0, false))) r → Ev (fun k => impl_ParseCue.j0 k s L false) r := by
        intro r e
        refine ev_succ ?_
        simp only [impl_ParseCue.j0, Bool.false_eq_true, if_false, if_pos (show 0 < (L.length : Int) by omega)]
        refine Ev.bind ea ?_
        simp only [if_pos (show 2 < (L.length : Int) by omega)]
        refine Ev.bind eb ?_
        simp only [if_neg (show ¬ (L.length : Int) = 5 by omega), if_pos (show 1 < (L.length : Int) by omega)]
        exact e
      by_cases c1 : a.2 = true
      · by_cases c2 : b.2 = true
        · by_cases c4 : (pCueT a.1 (rdOf ByteArray.empty L 1) b.1 0).toList = s.toList
          · refine ⟨_, pre _ ?_, cueRes_mk c4 hn⟩
            simp only [if_pos c1, if_pos c2]
            refine Ev.bind (impl_FormatCue_ev _ _ _ _ hz1) ?_
            simp only [if_pos c4]; exact Ev.now _
          · refine ⟨_, pre _ ?_, zero⟩
            simp only [if_pos c1, if_pos c2]
            refine Ev.bind (impl_FormatCue_ev _ _ _ _ hz1) ?_
            simp only [if_neg c4]; exact Ev.now _
        · refine ⟨_, pre _ ?_, zero⟩
          simp only [if_pos c1, if_neg c2]; exact Ev.now _
      · refine ⟨_, pre _ ?_, zero⟩
        simp only [if_neg c1]; exact Ev.now _
  by_cases h3 : L.length = 3
  · simp only [if_pos (show (L.length : Int) = 3 by omega)]
    exact key (.inl h3)
  · simp only [if_neg (show ¬ (L.length : Int) = 3 by omega)]
    by_cases h5 : L.length = 5
    · rw [show ((L.length : Int) != 5) = false by rw [bne_eq_false_iff_eq]; omega]
      exact key (.inr h5)
    · rw [show ((L.length : Int) != 5) = true by rw [bne_iff_ne]; omega]
      refine ⟨_, ev_succ ?_, zero⟩
      simp only [impl_ParseCue.j0, if_true]
      exact Ev.now _
theorem impl_ParseCue_fmt {t : Int} {n : ByteArray} {v r : Int} (h : pCue t n v r = true) : Ev (fun k => impl_ParseCue.f k (pCueT t n v r)) (t, n, v, r, true) := by
  obtain ⟨⟨t0, t1⟩, hs, r0, r1⟩ := pCue_num h
  obtain ⟨v0, v1⟩ := pCue_level h
  have hsz := pCueT_size t n v r
  obtain ⟨L, eL, hL⟩ := impl_SplitAt_eq (pCueT t n v r) 32 (by omega)
  rw [cue_words h] at hL
  have pt := impl_ParseNumber_num t.toNat (by omega)
  rw [show ((t.toNat : Nat) : Int) = t by omega] at pt
  have pv := impl_ParseMeasure_fmt (x := v) (by omega) (by omega)
  have fc := impl_FormatCue_ev t n v r (by omega)
  simp only [impl_ParseCue.f, eL, Option.bind_some]
  by_cases c : r = 0
  · subst c
    rw [if_pos rfl] at hL
    obtain ⟨x, y, z, rfl, hx, hy, hz⟩ := three_of hL
    rw [show ([x, y, z] : List ByteArray) = [pNum t, n, pFmt v] by rw [ba_ext hx, ba_ext hy, ba_ext hz]]
    refine ev_ite (fun _ => ?_) (fun hh => absurd (show ((([pNum t, n, pFmt v] : List ByteArray).length : Nat) : Int) = 3 from rfl) hh)
    refine ev_succ ?_
    simp only [impl_ParseCue.j0, Bool.false_eq_true, if_false]
    have l3 : ((([pNum t, n, pFmt v] : List ByteArray).length : Nat) : Int) = 3 := rfl
    have r0' : rdOf ByteArray.empty [pNum t, n, pFmt v] 0 = pNum t := rfl
    have r1' : rdOf ByteArray.empty [pNum t, n, pFmt v] 1 = n := rfl
    have r2' : rdOf ByteArray.empty [pNum t, n, pFmt v] 2 = pFmt v := rfl
    simp only [l3, r0', r1', r2', if_pos (show (0 : Int) < 3 by omega)]
    refine Ev.bind pt ?_
    simp only [if_pos (show (2 : Int) < 3 by omega)]
    refine Ev.bind pv ?_
    simp only [if_neg (show ¬ (3 : Int) = 5 by omega), if_pos (show (1 : Int) < 3 by omega), if_true]
    refine Ev.bind fc ?_
    simp only [if_true]
    exact Ev.now _
  · have pr := impl_ParseNumber_num r.toNat (by omega)
    rw [show ((r.toNat : Nat) : Int) = r by omega] at pr
    rw [if_neg c] at hL
    obtain ⟨x, y, z, u, q, rfl, hx, hy, hz, hq⟩ := five_of hL
    rw [show ([x, y, z, u, q] : List ByteArray) = [pNum t, n, pFmt v, u, pNum r] by rw [ba_ext hx, ba_ext hy, ba_ext hz, ba_ext hq]]
    have l5 : ((([pNum t, n, pFmt v, u, pNum r] : List ByteArray).length : Nat) : Int) = 5 := rfl
    have r0' : rdOf ByteArray.empty [pNum t, n, pFmt v, u, pNum r] 0 = pNum t := rfl
    have r1' : rdOf ByteArray.empty [pNum t, n, pFmt v, u, pNum r] 1 = n := rfl
    have r2' : rdOf ByteArray.empty [pNum t, n, pFmt v, u, pNum r] 2 = pFmt v := rfl
    have r4' : rdOf ByteArray.empty [pNum t, n, pFmt v, u, pNum r] 4 = pNum r := rfl
    rw [l5, show ((5 : Int) != 5) = false from rfl]
    refine ev_ite (fun hh => absurd hh (by decide)) (fun _ => ?_)
    refine ev_succ ?_
    simp only [impl_ParseCue.j0, Bool.false_eq_true, if_false]
    simp only [l5, r0', r1', r2', r4', if_pos (show (0 : Int) < 5 by omega)]
    refine Ev.bind pt ?_
    simp only [if_pos (show (2 : Int) < 5 by omega)]
    refine Ev.bind pv ?_
    simp only [if_true, if_pos (show (4 : Int) < 5 by omega)]
    refine Ev.bind pr ?_
    simp only [if_pos (show (1 : Int) < 5 by omega), if_true]
    refine Ev.bind fc ?_
    simp only [if_true]
    exact Ev.now _
theorem Ev_uniq {α : Type} {g : Nat → Option α} {a b : α} (h : Ev g a) (h' : Ev g b) : a = b := by
  obtain ⟨K, hK⟩ := h
  obtain ⟨K', hK'⟩ := h'
  have e1 := hK (max K K') (by omega)
  have e2 := hK' (max K K') (by omega)
  rw [e1] at e2; exact Option.some.inj e2
theorem DrawFormatCue_ok (b : List Int) (hb : b.length < 1099511627776) : ∃ t n v r, Ev (fun k => spec_DrawFormatCue.f k b) (t, n, v, r) ∧ n.size ≤ 9223372036854775807 := by
  obtain ⟨h0, e0⟩ := l1New_ev b hb
  obtain ⟨t, n, v, r, i, h, e, hi, hn⟩ := l7Any_ok b 0 h0 hb (by omega)
  refine ⟨t, n, v, r, ?_, hn⟩
  unfold spec_DrawFormatCue.f
  refine Ev.bind e0 ?_
  simp only [e, Option.bind_some]
  exact Ev.now _
theorem DrawCompareCues_ok (b : List Int) (hb : b.length < 1099511627776) : ∃ q, Ev (fun k => spec_DrawCompareCues.f k b) q := by
  obtain ⟨h0, e0⟩ := l1New_ev b hb
  obtain ⟨t, n, v, r, i, h, e, hi, hn⟩ := l7Any_ok b 0 h0 hb (by omega)
  obtain ⟨t', n', v', r', i', h', e', hi', hn'⟩ := l7Any_ok b i h hb hi
  obtain ⟨c, i2, h2, e2, hi2⟩ := l1Once_ok b i' h' 2 hb hi'
  cases c
  · refine ⟨(t, n, v, r, t', n', v', r'), ?_⟩
    unfold spec_DrawCompareCues.f
    refine Ev.bind e0 ?_
    simp only [e, e', e2, Option.bind_some, Bool.false_eq_true, if_false]
    exact Ev.now _
  · refine ⟨(t, n, v, r, t, n', v', r'), ?_⟩
    unfold spec_DrawCompareCues.f
    refine Ev.bind e0 ?_
    simp only [e, e', e2, Option.bind_some, if_true]
    exact Ev.now _
theorem DrawParseCue_ok (b : List Int) (hb : b.length < 1099511627776) : ∃ s, Ev (fun k => spec_DrawParseCue.f k b) s ∧ s.size < 4294967281 := by
  obtain ⟨h0, e0⟩ := l1New_ev b hb
  obtain ⟨t, n, v, r, i, h, e, hi, hn, _⟩ := l7Cue_ok b 0 h0 hb (by omega)
  have hns := nmL_size n hn
  obtain ⟨c, i2, h2, e2, hi2, _, _⟩ := l1Below_ok b i h 6 hb hi
  have hs := pCueT_size t n v r
  have fc := spec_FormatCue_ev t n v r hns
  by_cases c0 : c = 0
  · obtain ⟨w, i3, h3, e3, _, hw⟩ := l1Str_ok b i2 h2 [(⟨#[32]⟩ : ByteArray), (⟨#[32, 105, 110, 32, 51]⟩ : ByteArray), (⟨#[48]⟩ : ByteArray), (⟨#[32, 105, 110, 32, 48]⟩ : ByteArray)] hb hi2 (by simp)
    have hwz : w.size ≤ 10 := by
      have : ∀ x ∈ ([(⟨#[32]⟩ : ByteArray), (⟨#[32, 105, 110, 32, 51]⟩ : ByteArray), (⟨#[48]⟩ : ByteArray), (⟨#[32, 105, 110, 32, 48]⟩ : ByteArray)] : List ByteArray), x.size ≤ 10 := by decide
      exact this w hw
    refine ⟨pCueT t n v r ++ w, ?_, by rw [ByteArray.size_append]; omega⟩
    unfold spec_DrawParseCue.f
    refine Ev.bind e0 ?_
    simp only [e, Option.bind_some]
    refine Ev.bind fc ?_
    simp only [e2, Option.bind_some, if_pos c0, e3]
    exact ev_ite (fun _ => Ev.now _) (fun hh => absurd (show _ by omega) hh)
  · by_cases c1 : c = 1
    · obtain ⟨w, i3, h3, e3, _, hw⟩ := l1Str_ok b i2 h2 [(⟨#[]⟩ : ByteArray), (⟨#[53]⟩ : ByteArray), (⟨#[53, 32, 97]⟩ : ByteArray), (⟨#[53, 32, 97, 32, 49, 32, 105, 110, 32, 48]⟩ : ByteArray), (⟨#[54, 53, 32, 97, 32, 49]⟩ : ByteArray), (⟨#[54, 52, 32, 97, 32, 52, 32, 105, 110, 32, 49, 54]⟩ : ByteArray), (⟨#[53, 32, 97, 32, 49, 32, 111, 110, 32, 51]⟩ : ByteArray), (⟨#[53, 32, 97, 32, 52, 46, 49, 50, 53]⟩ : ByteArray), (⟨#[48, 53, 32, 97, 32, 49]⟩ : ByteArray), (⟨#[53, 32, 97, 32, 49, 32, 105, 110, 32, 49, 55]⟩ : ByteArray)] hb hi2 (by simp)
      have hwz : w.size ≤ 20 := by
        have : ∀ x ∈ ([(⟨#[]⟩ : ByteArray), (⟨#[53]⟩ : ByteArray), (⟨#[53, 32, 97]⟩ : ByteArray), (⟨#[53, 32, 97, 32, 49, 32, 105, 110, 32, 48]⟩ : ByteArray), (⟨#[54, 53, 32, 97, 32, 49]⟩ : ByteArray), (⟨#[54, 52, 32, 97, 32, 52, 32, 105, 110, 32, 49, 54]⟩ : ByteArray), (⟨#[53, 32, 97, 32, 49, 32, 111, 110, 32, 51]⟩ : ByteArray), (⟨#[53, 32, 97, 32, 52, 46, 49, 50, 53]⟩ : ByteArray), (⟨#[48, 53, 32, 97, 32, 49]⟩ : ByteArray), (⟨#[53, 32, 97, 32, 49, 32, 105, 110, 32, 49, 55]⟩ : ByteArray)] : List ByteArray), x.size ≤ 20 := by decide
        exact this w hw
      refine ⟨w, ?_, by omega⟩
      unfold spec_DrawParseCue.f
      refine Ev.bind e0 ?_
      simp only [e, Option.bind_some]
      refine Ev.bind fc ?_
      simp only [e2, Option.bind_some, if_neg c0, if_pos c1, e3]
      exact Ev.now _
    · refine ⟨pCueT t n v r, ?_, by omega⟩
      unfold spec_DrawParseCue.f
      refine Ev.bind e0 ?_
      simp only [e, Option.bind_some]
      refine Ev.bind fc ?_
      simp only [e2, Option.bind_some, if_neg c0, if_neg c1]
      exact Ev.now _
theorem pCmpC_anti (a : Int) (b : ByteArray) (c : Int) (d : ByteArray) : pCmpC a b c d = wrap64 (-(pCmpC c d a b)) := by
  unfold pCmpC
  by_cases h1 : a < c
  · rw [if_pos h1, if_neg (show ¬ c < a by omega), if_neg (show ¬ c = a by omega)]; unfold wrap64; omega
  · rw [if_neg h1]
    by_cases h2 : a = c
    · rw [if_pos h2, if_neg (show ¬ c < a by omega), if_pos h2.symm]
      cases h3 : Op.bytesLess b.toList d.toList
      · cases h4 : Op.bytesLess d.toList b.toList
        · have e := bl_tri _ _ h3 h4
          simp only [Bool.false_eq_true, if_false, e, if_true]; unfold wrap64; omega
        · have ne : ¬ b.toList = d.toList := fun e => by rw [e, bl_irrefl] at h4; cases h4
          simp only [Bool.false_eq_true, if_false, if_neg ne, if_true]; unfold wrap64; omega
      · have h4 : ¬ Op.bytesLess d.toList b.toList = true := fun h4 => by
          have := bl_trans _ _ _ h3 h4
          rw [bl_irrefl] at this; cases this
        have ne : ¬ d.toList = b.toList := fun e => by rw [e, bl_irrefl] at h3; cases h3
        simp only [if_true, if_neg h4, if_neg ne]; unfold wrap64; omega
    · rw [if_neg h2, if_pos (show c < a by omega)]; unfold wrap64; omega
theorem FnCueText_j0 (bs : List Int) (hb : bs.length < 1099511627776) : Ev (fun k => laws_FnCueText.j0 k bs false) true := by
  obtain ⟨s, es, hs⟩ := DrawParseCue_ok bs hb
  obtain ⟨z, ez, hz⟩ := impl_ParseCue_sound s hs
  obtain ⟨⟨a, b, c, d, a', b', c', d'⟩, eq⟩ := DrawCompareCues_ok bs hb
  have tail : Ev (fun k => (impl_CompareCues.f k a b c d a' b' c' d').bind fun t382 => (impl_CompareCues.f k a' b' c' d' a b c d).bind fun t383 => some (t382 == (wrap64 (-t383)))) true := by
    refine Ev.bind (impl_CompareCues_ev _ _ _ _ _ _ _ _) ?_
    refine Ev.bind (impl_CompareCues_ev _ _ _ _ _ _ _ _) ?_
    rw [← pCmpC_anti, beq_self_eq_true]
    exact Ev.now _
  refine ev_succ ?_
  simp only [laws_FnCueText.j0, Bool.false_eq_true, if_false]
  refine Ev.bind es ?_
  refine Ev.bind ez ?_
  refine Ev.bind eq ?_
  rcases hz with rfl | ⟨h1, h2, h3⟩
  · simp only [Bool.false_eq_true, if_false]
    exact tail
  · simp only [if_pos h1]
    have hn : z.2.1.size ≤ 9223372036854775807 := by have := (pCue_num h2).2.1; omega
    refine Ev.bind (impl_FormatCue_ev _ _ _ _ hn) ?_
    simp only [if_pos h3]
    exact tail
theorem FnCueText : laws_FnCueText.Pure := by
  intro bs _ hb' _
  refine Ev.rounds ?_
  simp only [laws_FnCueText.f, laws_big_eq, Option.bind_some, decide_eq_true_eq]
  refine ev_ite (fun _ => Ev.now _) (fun h => ?_)
  have hb : bs.length < 1099511627776 := by omega
  obtain ⟨t, n, v, r, e, hn⟩ := DrawFormatCue_ok bs hb
  refine Ev.bind e ?_
  refine Ev.bind (impl_FormatCue_ev t n v r hn) ?_
  have hj := FnCueText_j0 bs hb
  by_cases c : pCue t n v r = true
  · refine Ev.bind (impl_ParseCue_fmt c) ?_
    refine Ev.bind (impl_IsCue_ev t n v r hn) ?_
    refine Ev.bind (spec_IsCue_ev t n v r hn) ?_
    simp only [bne_self_eq_false, Bool.false_eq_true, if_false]
    refine Ev.bind (impl_IsCue_ev t n v r hn) ?_
    rw [c]
    simp only [bne_self_eq_false, Bool.false_eq_true, if_false, if_true, beq_self_eq_true, Bool.not_true, Bool.or_self]
    exact hj
  · have e0 : pCueT t n v r = ⟨#[]⟩ := by unfold pCueT; rw [if_neg c]
    rw [e0]
    obtain ⟨z, ez, hz⟩ := impl_ParseCue_sound (⟨#[]⟩ : ByteArray) (by decide)
    refine Ev.bind ez ?_
    refine Ev.bind (impl_IsCue_ev t n v r hn) ?_
    refine Ev.bind (spec_IsCue_ev t n v r hn) ?_
    simp only [bne_self_eq_false, Bool.false_eq_true, if_false]
    refine Ev.bind (impl_IsCue_ev t n v r hn) ?_
    have c' : pCue t n v r = false := by simpa using c
    rw [c']
    rcases hz with rfl | ⟨h1, h2, h3⟩
    · simp only [bne_self_eq_false, Bool.false_eq_true, if_false]
      exact hj
    · exfalso
      have hw := cue_words h2
      rw [ba_tl] at h3
      rw [h3, ba_tl] at hw
      have := congrArg List.length hw
      split at this <;> simp [splA] at this

end Go.Proofs.YthofcclbkihemaaDoor.Pure
