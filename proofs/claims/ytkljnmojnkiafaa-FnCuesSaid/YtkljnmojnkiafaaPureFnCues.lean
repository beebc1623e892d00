/- The law FnCues comes to true for every input: a cue that is added is in the score, and removed again it leaves it as it was. (P7) No condition beside the statement's own. -/
import Derived.Test.YtkljnmojnkiafaaStFnCues
namespace Go.Proofs.Ytkljnmojnkiafaa.Pure
open Go Go.RowKit Go.Proofs.Ytkljnmojnkiafaa.MFnCues Go.Proofs.YtkljnmojnkiafaaW.PrintWords Go.Proofs.YtkljnmojnkiafaaW.PrintLast Go.Proofs.YtkljnmojnkiafaaW.PrintMore
set_option linter.unusedVariables false
set_option linter.unusedSimpArgs false

theorem ev_succ {α : Type} {g : Nat → Option α} {r : α} (h : Ev (fun k => g (k + 1)) r) : Ev g r := Ev.step (fun _ => rfl) h
theorem ev_ite {α : Type} {c : Prop} [Decidable c] {f g : Nat → Option α} {r : α} (h : c → Ev f r) (h' : ¬ c → Ev g r) : Ev (fun k => if c then f k else g k) r := by
  by_cases hc : c
  · simp only [if_pos hc]; exact h hc
  · simp only [if_neg hc]; exact h' hc
theorem ix {α : Type} {l pre t : List α} {a : α} (h : l = pre ++ a :: t) (hl : l.length < 4611686018427387904) :
    (pre.length : Int) < (l.length : Int) ∧ (∀ d, l.getD pre.length d = a) ∧ wrap64 ((pre.length : Int) + 1) = ((pre ++ [a]).length : Int) ∧ l = (pre ++ [a]) ++ t := by
  subst h
  simp only [List.length_append, List.length_cons, List.length_nil] at *
  refine ⟨by omega, fun d => by simp [List.getD], by unfold wrap64; omega, by simp⟩
theorem ixn {α : Type} {l pre : List α} (h : l = pre ++ []) : ¬ (pre.length : Int) < (l.length : Int) := by
  subst h; simp
theorem nn (n : Nat) : (0 : Int) ≤ (n : Int) := Int.natCast_nonneg n
theorem w64 {n : Int} (h0 : -9223372036854775808 ≤ n) (h1 : n < 9223372036854775808) : wrap64 n = n := by unfold wrap64; omega
theorem mn_min (a b : Int) : mn a b = min a b := by unfold mn; omega
theorem mx_max (a b : Int) : mx a b = max a b := by unfold mx; omega
theorem set_app {α : Type} (pre t : List α) (a b : α) : (pre ++ a :: t).set pre.length b = pre ++ b :: t := by simp
theorem app1 {α : Type} (pre : List α) (a : α) (t : List α) : pre ++ a :: t = (pre ++ [a]) ++ t := by simp

/-- The numbers from c on, n of them. -/
def upto : Nat → Int → List Int
  | 0, _ => []
  | n + 1, c => c :: upto n (c + 1)
theorem upto_length : ∀ n c, (upto n c).length = n
  | 0, _ => rfl
  | n + 1, c => by simp [upto, upto_length n]

theorem spec_l1In_eq (a b c : Int) : spec_l1In.f a b c = some (decide (b ≤ a) && decide (a ≤ c)) := by
  unfold spec_l1In.f; split <;> simp <;> omega
theorem impl_isWithin_eq (a b c : Int) : impl_isWithin.f a b c = some (decide (b ≤ a) && decide (a ≤ c)) := by
  unfold impl_isWithin.f; split <;> simp <;> omega
theorem and255 (x : Int) : 0 ≤ Go.bits .and .i64 x 255 ∧ Go.bits .and .i64 x 255 ≤ 255 := by
  have h : ((BitVec.ofInt 64 x) &&& (BitVec.ofInt 64 255)).toNat ≤ 255 := by
    rw [BitVec.toNat_and]
    refine Nat.le_trans Nat.and_le_right ?_
    decide
  have e : Go.bits .and .i64 x 255 = IntKind.i64.wrap (((BitVec.ofInt 64 x) &&& (BitVec.ofInt 64 255)).toNat : Int) := by
    rfl
  rw [e]
  generalize ((BitVec.ofInt 64 x) &&& (BitVec.ofInt 64 255)).toNat = m at h
  rw [IntKind.wrap_i64]; omega
theorem l1Byte_ok (b : List Int) (i h : Int) (hb : b.length < 1099511627776) (hi : 0 ≤ i) : ∃ r i' h', spec_l1Byte.f b i h = some (r, i', h') ∧ 0 ≤ i' ∧ 0 ≤ r ∧ r ≤ 255 := by
  unfold spec_l1Byte.f
  split
  · exact ⟨_, _, _, rfl, by unfold wrap64; omega, and255 _⟩
  · exact ⟨_, _, _, rfl, hi, and255 _⟩
theorem l1Below_ok (b : List Int) (i h n : Int) (hb : b.length < 1099511627776) (hi : 0 ≤ i) : ∃ r i' h', spec_l1Below.f b i h n = some (r, i', h') ∧ 0 ≤ i' ∧ 0 ≤ r ∧ (r < n ∨ n ≤ 0 ∧ r = 0) := by
  unfold spec_l1Below.f
  split
  · exact ⟨_, _, _, rfl, hi, by omega, by omega⟩
  · rename_i hn
    split
    · obtain ⟨r, i', h', e, hi', h0, h1⟩ := l1Byte_ok b i h hb hi
      rw [e]; simp only [Option.bind_some]
      rw [if_neg (by omega)]
      exact ⟨_, _, _, rfl, hi', Int.tmod_nonneg _ h0, .inl (Int.tmod_lt_of_pos _ (by omega))⟩
    · obtain ⟨r, i1, h1, e, hi1, h0, h255⟩ := l1Byte_ok b i h hb hi
      rw [e]; simp only [Option.bind_some]
      obtain ⟨r2, i2, h2, e2, hi2, h02, h2552⟩ := l1Byte_ok b i1 h1 hb hi1
      rw [e2]; simp only [Option.bind_some]
      obtain ⟨r3, i3, h3, e3, hi3, h03, h2553⟩ := l1Byte_ok b i2 h2 hb hi2
      rw [e3]; simp only [Option.bind_some]
      rw [if_neg (by omega)]
      refine ⟨_, _, _, rfl, hi3, Int.tmod_nonneg _ ?_, .inl (Int.tmod_lt_of_pos _ (by omega))⟩
      unfold wrap64; omega
theorem l1Int_ok (b : List Int) (i h : Int) (l : List Int) (hb : b.length < 1099511627776) (hi : 0 ≤ i) (hl : l ≠ []) : ∃ r i' h', spec_l1Int.f b i h l = some (r, i', h') ∧ 0 ≤ i' ∧ r ∈ l := by
  obtain ⟨r, i', h', e, hi', h0, h1⟩ := l1Below_ok b i h (l.length : Int) hb hi
  have hp : 0 < l.length := List.length_pos_iff.2 hl
  unfold spec_l1Int.f
  rw [e]; simp only [Option.bind_some]
  have hlt : r < (l.length : Int) := by omega
  rw [if_pos h0, if_pos hlt]
  refine ⟨_, _, _, rfl, hi', ?_⟩
  have h2 : r.toNat < l.length := by omega
  simp only [rd, List.getD_eq_getElem?_getD, List.getElem?_eq_getElem h2, Option.getD_some]
  exact List.getElem_mem _
theorem l1Odd_ok (b : List Int) (i h : Int) (hb : b.length < 1099511627776) (hi : 0 ≤ i) : ∃ r i' h', spec_l1Odd.f b i h = some (r, i', h') ∧ 0 ≤ i' := by
  unfold spec_l1Odd.f
  obtain ⟨r, i', h', e, hi', _⟩ := l1Int_ok b i h [(-1), 0, 1, 2, 3, 7, 8, 9, 15, 16, 17, 63, 64, 65, 999, 1000, 4096, 4097, 9223372036854775807, (-9223372036854775808)] hb hi (by simp)
  rw [e]; simp only [Option.bind_some]
  exact ⟨_, _, _, rfl, hi'⟩
theorem l1New_l0 (b : List Int) (hb : b.length < 1099511627776) : ∀ (d i : Nat) (h : Int), i + d = b.length → ∃ h', Ev (fun k => spec_l1New.l0 k b h (i : Int)) (b, 0, h') := by
  intro d
  induction d with
  | zero =>
    intro i h hd
    refine ⟨h, ev_succ ?_⟩
    simp only [spec_l1New.l0, if_neg (show ¬ ((i : Int) < (b.length : Int)) by omega)]
    exact Ev.now _
  | succ d ih =>
    intro i h hd
    by_cases h4 : (i : Int) < 4000
    · obtain ⟨h', e⟩ := ih (i + 1) _ (by omega)
      refine ⟨h', ev_succ ?_⟩
      simp only [spec_l1New.l0, if_pos (show ((i : Int) < (b.length : Int)) by omega), if_pos h4, if_pos (nn _)]
      rw [show wrap64 ((i : Int) + 1) = ((i + 1 : Nat) : Int) by unfold wrap64; omega]
      exact e
    · refine ⟨h, ev_succ ?_⟩
      simp only [spec_l1New.l0, if_pos (show ((i : Int) < (b.length : Int)) by omega), if_neg h4]
      exact Ev.now _
theorem l1New_ev (b : List Int) (hb : b.length < 1099511627776) : ∃ h', Ev (fun k => spec_l1New.f k b) (b, 0, h') := l1New_l0 b hb b.length 0 _ (by omega)
theorem laws_big_eq (b : List Int) : laws_big.f b = some (decide ((b.length : Int) > 4096)) := rfl
theorem ix2 {α : Type} {l pre t : List α} {p a : α} (h : l = (pre ++ [p]) ++ a :: t) (hl : l.length < 4611686018427387904) :
    (((pre ++ [p]).length : Int)) > 0 ∧ wrap64 (((pre ++ [p]).length : Int) - 1) = (pre.length : Int) ∧ (∀ d, l.getD pre.length d = p) ∧ (pre.length : Int) < (l.length : Int) := by
  subst h
  simp only [List.length_append, List.length_cons, List.length_nil] at *
  refine ⟨by omega, by unfold wrap64; omega, fun d => by simp [List.getD], by omega⟩
theorem ev_eq {α : Type} {f g : Nat → Option α} {r : α} (h : f = g) (k : Ev g r) : Ev f r := h ▸ k
def pCmpI (a b : Int) : Int := if a < b then -1 else if a = b then 0 else 1
theorem cmp_Compare_int_eq (a b : Int) : cmp_Compare_int.f a b = some (pCmpI a b) := by
  simp only [cmp_Compare_int.f, cmp_isNaN_int.f, bne_self_eq_false, Option.bind_some, Bool.false_eq_true, if_false, pCmpI]
  repeat' split
  all_goals first | rfl | omega
theorem cmp_Or_int_ev (a b : Int) : Ev (fun k => cmp_Or_int.f k [a, b]) (if a = 0 then b else a) := by
  unfold cmp_Or_int.f
  refine ev_succ ?_
  simp only [cmp_Or_int.l0, List.length_cons, List.length_nil, if_pos (show ((0 : Int) < ((0 + 1 + 1 : Nat) : Int)) by omega), if_pos (show (0 : Int) ≤ 0 by omega), rd, Int.toNat_zero, List.getD_cons_zero]
  refine ev_ite (fun h => ?_) (fun h => ?_)
  · rw [if_pos h, show wrap64 (0 + 1) = 1 by unfold wrap64; omega]
    refine ev_succ ?_
    simp only [cmp_Or_int.l0, List.length_cons, List.length_nil, if_pos (show ((1 : Int) < ((0 + 1 + 1 : Nat) : Int)) by omega), if_pos (show (0 : Int) ≤ 1 by omega), rd, show ((1 : Int).toNat) = 1 from rfl, List.getD_cons_succ, List.getD_cons_zero]
    refine ev_ite (fun h2 => ?_) (fun h2 => Ev.now _)
    rw [show wrap64 (1 + 1) = 2 by unfold wrap64; omega, h2]
    refine ev_succ ?_
    simp only [cmp_Or_int.l0, List.length_cons, List.length_nil, if_neg (show ¬ ((2 : Int) < ((0 + 1 + 1 : Nat) : Int)) by omega)]
    exact Ev.now _
  · rw [if_neg h]; exact Ev.now _
abbrev Cu := S42
def nmC (b : Int) (i : Nat) : Bool := (decide (97 ≤ b) && decide (b ≤ 122)) || ((decide (48 ≤ b) && decide (b ≤ 57)) && !decide (i = 0))
def nmR (a : ByteArray) : Nat → Nat → Bool
  | 0, _ => decide (1 ≤ (a.size : Int)) && decide ((a.size : Int) ≤ 8)
  | d + 1, i => nmC (bt a (i : Int)) i && nmR a d (i + 1)
def pName (a : ByteArray) : Bool := nmR a a.size 0
theorem spec_IsName_l0 (a : ByteArray) (ha : a.size ≤ 9223372036854775807) : ∀ (d i : Nat), i + d = a.size → Ev (fun k => spec_IsName.l0 k a (i : Int)) (nmR a d i) := by
  intro d
  induction d with
  | zero =>
    intro i h
    refine ev_succ ?_
    simp only [spec_IsName.l0, if_neg (show ¬ ((i : Int) < (a.size : Int)) by omega), nmR]
    refine ev_ite (fun c => ?_) (fun c => ?_)
    · rw [decide_eq_true (show 1 ≤ (a.size : Int) by omega), Bool.true_and]; exact Ev.now _
    · rw [decide_eq_false (show ¬ 1 ≤ (a.size : Int) by omega), Bool.false_and]; exact Ev.now _
  | succ d ih =>
    intro i h
    have ih' := ih (i + 1) (by omega)
    refine ev_succ ?_
    simp only [spec_IsName.l0, if_pos (show ((i : Int) < (a.size : Int)) by omega), if_pos (nn _), nmR]
    rw [show wrap64 ((i : Int) + 1) = ((i + 1 : Nat) : Int) by unfold wrap64; omega]
    generalize bt a (i : Int) = b
    have hi : ((i : Int) = 0) = (i = 0) := by simp
    simp only [nmC, hi]
    by_cases h1 : 97 ≤ b <;> by_cases h2 : b ≤ 122 <;> by_cases h3 : 48 ≤ b <;> by_cases h4 : b ≤ 57 <;> by_cases h5 : i = 0 <;> first | (exfalso; omega) | skip
    all_goals simp only [ge_iff_le, h1, h2, h3, h4, h5, decide_true, decide_false, Bool.true_and, Bool.false_and, Bool.and_true, Bool.and_false, Bool.or_true, Bool.true_or, Bool.or_false, Bool.false_or, Bool.not_true, Bool.not_false, if_true, if_false]
    all_goals first | exact Ev.now _ | exact ih' | (subst h5; exact ih')
theorem spec_IsName_ev (a : ByteArray) (ha : a.size ≤ 9223372036854775807) : Ev (fun k => spec_IsName.f k a) (pName a) := spec_IsName_l0 a ha a.size 0 (by omega)
theorem impl_IsName_l0 (a : ByteArray) (ha : a.size ≤ 9223372036854775807) : ∀ (d i : Nat), i + d = a.size → Ev (fun k => impl_IsName.l0 k a (a.size : Int) (i : Int)) (nmR a d i) := by
  intro d
  induction d with
  | zero =>
    intro i h
    refine ev_succ ?_
    simp only [impl_IsName.l0, if_neg (show ¬ ((i : Int) < (a.size : Int)) by omega), nmR, impl_isWithin_eq, Option.bind_some]
    exact Ev.now _
  | succ d ih =>
    intro i h
    have ih' := ih (i + 1) (by omega)
    refine ev_succ ?_
    simp only [impl_IsName.l0, if_pos (show ((i : Int) < (a.size : Int)) by omega), if_pos (nn _), nmR]
    rw [show wrap64 ((i : Int) + 1) = ((i + 1 : Nat) : Int) by unfold wrap64; omega]
    generalize bt a (i : Int) = b
    have hi : ((i : Int) = 0) = (i = 0) := by simp
    simp only [nmC, hi, gt_iff_lt, ← Int.not_le]
    by_cases h1 : 97 ≤ b <;> by_cases h2 : b ≤ 122 <;> by_cases h3 : 48 ≤ b <;> by_cases h4 : b ≤ 57 <;> by_cases h5 : i = 0 <;> first | (exfalso; omega) | skip
    all_goals simp only [ge_iff_le, h1, h2, h3, h4, h5, not_true_eq_false, not_false_eq_true, decide_true, decide_false, Bool.true_and, Bool.false_and, Bool.and_true, Bool.and_false, Bool.or_true, Bool.true_or, Bool.or_false, Bool.false_or, Bool.not_true, Bool.not_false, if_true, if_false]
    all_goals first | exact Ev.now _ | exact ih' | (subst h5; exact ih')
theorem impl_IsName_ev (a : ByteArray) (ha : a.size ≤ 9223372036854775807) : Ev (fun k => impl_IsName.f k a) (pName a) := impl_IsName_l0 a ha a.size 0 (by omega)
def pCue (t : Int) (n : ByteArray) (v r : Int) : Bool := (decide (0 ≤ t) && decide (t ≤ 64)) && (pName n && ((decide (0 ≤ v) && decide (v ≤ 32)) && (decide (0 ≤ r) && decide (r ≤ 16))))
theorem spec_IsCue_ev (t : Int) (n : ByteArray) (v r : Int) (hn : n.size ≤ 9223372036854775807) : Ev (fun k => spec_IsCue.f k t n v r) (pCue t n v r) := by
  simp only [spec_IsCue.f, spec_l1In_eq, Option.bind_some, pCue]
  refine ev_ite (fun c => ?_) (fun c => ?_)
  · rw [c, Bool.true_and]
    refine Ev.bind (spec_IsName_ev n hn) ?_
    refine ev_ite (fun c => ?_) (fun c => ?_)
    · rw [c, Bool.true_and]
      refine ev_ite (fun c => ?_) (fun c => ?_)
      · rw [c, Bool.true_and]; exact Ev.now _
      · rw [Bool.eq_false_iff.2 c, Bool.false_and]; exact Ev.now _
    · rw [Bool.eq_false_iff.2 c, Bool.false_and]; exact Ev.now _
  · rw [Bool.eq_false_iff.2 c, Bool.false_and]; exact Ev.now _
theorem impl_IsCue_ev (t : Int) (n : ByteArray) (v r : Int) (hn : n.size ≤ 9223372036854775807) : Ev (fun k => impl_IsCue.f k t n v r) (pCue t n v r) := by
  simp only [impl_IsCue.f, impl_isWithin_eq, Option.bind_some, pCue]
  refine ev_ite (fun c => ?_) (fun c => ?_)
  · rw [c, Bool.true_and]
    refine Ev.bind (impl_IsName_ev n hn) ?_
    refine ev_ite (fun c => ?_) (fun c => ?_)
    · rw [c, Bool.true_and]
      refine ev_ite (fun c => ?_) (fun c => ?_)
      · rw [c, Bool.true_and]; exact Ev.now _
      · rw [Bool.eq_false_iff.2 c, Bool.false_and]; exact Ev.now _
    · rw [Bool.eq_false_iff.2 c, Bool.false_and]; exact Ev.now _
  · rw [Bool.eq_false_iff.2 c, Bool.false_and]; exact Ev.now _
theorem bl_irrefl : ∀ x, Op.bytesLess x x = false
  | [] => rfl
  | a :: x => by
    simp only [Op.bytesLess, bl_irrefl x, Bool.and_false, Bool.or_false, decide_eq_false_iff_not]
    exact UInt8.lt_irrefl a
theorem bl_tri : ∀ x y, Op.bytesLess x y = false → Op.bytesLess y x = false → x = y
  | [], [], _, _ => rfl
  | [], _ :: _, h, _ => by simp [Op.bytesLess] at h
  | _ :: _, [], _, h => by simp [Op.bytesLess] at h
  | a :: x, b :: y, h, h' => by
    simp only [Op.bytesLess, Bool.or_eq_false_iff, decide_eq_false_iff_not] at h h'
    have hab : a = b := by
      have h1 := h.1; have h2 := h'.1
      exact UInt8.le_antisymm (UInt8.not_lt.1 h2) (UInt8.not_lt.1 h1)
    subst hab
    simp only [beq_self_eq_true, Bool.true_and] at h h'
    rw [bl_tri x y h.2 h'.2]
theorem bl_trans : ∀ x y z, Op.bytesLess x y = true → Op.bytesLess y z = true → Op.bytesLess x z = true
  | _, _, [], _, h => by cases ‹List UInt8› <;> simp [Op.bytesLess] at h
  | [], _, _ :: _, _, _ => rfl
  | _ :: _, [], _ :: _, h, _ => by simp [Op.bytesLess] at h
  | a :: x, b :: y, c :: z, h, h' => by
    simp only [Op.bytesLess, Bool.or_eq_true, decide_eq_true_eq, Bool.and_eq_true, beq_iff_eq] at h h' ⊢
    rcases h with h | ⟨h, h2⟩
    · rcases h' with h' | ⟨h', h2'⟩
      · exact .inl (UInt8.lt_trans h h')
      · exact .inl (h' ▸ h)
    · rcases h' with h' | ⟨h', h2'⟩
      · exact .inl (h ▸ h')
      · exact .inr ⟨h.trans h', bl_trans x y z h2 h2'⟩
/-- The order of cues. -/
def pCmpC (a : Int) (b : ByteArray) (c : Int) (d : ByteArray) : Int :=
  if a < c then -1 else if a = c then (if Op.bytesLess b.toList d.toList = true then -1 else if b.toList = d.toList then 0 else 1) else 1
theorem spec_CompareCues_ev (a : Int) (b : ByteArray) (v r c : Int) (d : ByteArray) (v' r' : Int) : Ev (fun k => spec_CompareCues.f k a b v r c d v' r') (pCmpC a b c d) := by
  unfold spec_CompareCues.f pCmpC
  refine ev_ite (fun h => ?_) (fun h => ?_)
  · rw [if_pos h, decide_eq_true h]
    refine ev_succ ?_
    simp only [spec_CompareCues.j0, if_true]; exact Ev.now _
  · rw [if_neg h]
    refine ev_ite (fun h1 => ?_) (fun h1 => ?_)
    · rw [if_pos h1]
      refine ev_succ ?_
      simp only [spec_CompareCues.j0]
      refine ev_ite (fun h2 => ?_) (fun h2 => ?_)
      · rw [if_pos h2]; exact Ev.now _
      · rw [if_neg h2]
        simp only [if_pos h1]
        refine ev_ite (fun h3 => ?_) (fun h3 => ?_)
        · rw [if_pos h3]; exact Ev.now _
        · rw [if_neg h3]; exact Ev.now _
    · rw [if_neg h1]
      refine ev_succ ?_
      simp only [spec_CompareCues.j0, Bool.false_eq_true, if_false, if_neg h1]; exact Ev.now _
def pCmpS (a b : ByteArray) : Int := if Op.bytesLess a.toList b.toList = true then -1 else if a.toList = b.toList then 0 else 1
theorem cmp_Compare_string_eq (a b : ByteArray) : cmp_Compare_string.f a b = some (pCmpS a b) := by
  simp only [cmp_Compare_string.f, cmp_isNaN_string.f, bne_self_eq_false, Option.bind_some, Bool.false_eq_true, if_false, pCmpS]
  split
  · rfl
  · rename_i h
    split
    · rename_i h2
      rw [if_neg]
      intro e
      rw [e, bl_irrefl] at h2
      cases h2
    · rename_i h2
      rw [if_pos (bl_tri _ _ (Bool.eq_false_iff.2 h) (Bool.eq_false_iff.2 h2))]
theorem impl_CompareCues_ev (a : Int) (b : ByteArray) (v r c : Int) (d : ByteArray) (v' r' : Int) : Ev (fun k => impl_CompareCues.f k a b v r c d v' r') (pCmpC a b c d) := by
  simp only [impl_CompareCues.f, cmp_Compare_int_eq, cmp_Compare_string_eq, Option.bind_some]
  have := cmp_Or_int_ev (pCmpI a c) (pCmpS b d)
  have e : (if pCmpI a c = 0 then pCmpS b d else pCmpI a c) = pCmpC a b c d := by
    unfold pCmpI pCmpC pCmpS
    by_cases h1 : a < c
    · simp [h1]
    · by_cases h2 : a = c
      · simp [h2]
      · simp [h1, h2]
  rw [e] at this
  exact Ev.bind this (Ev.now _)
/-- Every name of a list is a string that Go can hold. -/
def szN (l : List Cu) : Prop := ∀ c ∈ l, c.f1.size ≤ 9223372036854775807
def cOk (c : Cu) : Bool := pCue c.f0 c.f1 c.f2 c.f3
def cLt (a b : Cu) : Bool := decide (pCmpC a.f0 a.f1 b.f0 b.f1 < 0)
def sRest : Cu → List Cu → Bool
  | _, [] => true
  | p, q :: t => cOk q && (cLt p q && sRest q t)
def sAll : List Cu → Bool
  | [] => true
  | q :: t => cOk q && sRest q t
/-- IsScore -/
def pScore (l : List Cu) : Bool := sAll l && decide ((l.length : Int) ≤ 12)
theorem pScore_len {l : List Cu} (h : pScore l = true) : l.length ≤ 12 := by
  simp only [pScore, Bool.and_eq_true, decide_eq_true_eq] at h; omega
theorem szN_mid {l pre t : List Cu} {a : Cu} (h : szN l) (e : l = pre ++ a :: t) : a.f1.size ≤ 9223372036854775807 := h a (by simp [e])
theorem sRest_all : ∀ (l : List Cu) (p : Cu), sRest p l = true → ∀ c ∈ l, cOk c = true
  | [], _, _, c, hc => by cases hc
  | q :: t, p, h, c, hc => by
    simp only [sRest, Bool.and_eq_true] at h
    cases hc with
    | head => exact h.1
    | tail _ hc => exact sRest_all t q h.2.2 c hc
theorem sAll_all : ∀ (l : List Cu), sAll l = true → ∀ c ∈ l, cOk c = true
  | [], _, c, hc => by cases hc
  | q :: t, h, c, hc => by
    simp only [sAll, Bool.and_eq_true] at h
    cases hc with
    | head => exact h.1
    | tail _ hc => exact sRest_all t q h.2 c hc
theorem pScore_all {l : List Cu} (h : pScore l = true) : ∀ c ∈ l, cOk c = true := by
  simp only [pScore, Bool.and_eq_true] at h; exact sAll_all l h.1
theorem cLt_iff (a b : Cu) : cLt a b = true ↔ a.f0 < b.f0 ∨ (a.f0 = b.f0 ∧ Op.bytesLess a.f1.toList b.f1.toList = true) := by
  unfold cLt
  rw [decide_eq_true_iff]
  unfold pCmpC
  by_cases h1 : a.f0 < b.f0
  · simp [h1]
  · by_cases h2 : a.f0 = b.f0
    · rw [if_neg h1, if_pos h2]
      by_cases h3 : Op.bytesLess a.f1.toList b.f1.toList = true
      · simp [h2, h3]
      · rw [if_neg h3]
        split <;> simp [h1, h2, h3]
    · simp [h1, h2]
theorem cLt_trans {a b c : Cu} (h : cLt a b = true) (h' : cLt b c = true) : cLt a c = true := by
  rw [cLt_iff] at *
  rcases h with h | ⟨h, h2⟩
  · rcases h' with h' | ⟨h', _⟩ <;> exact .inl (by omega)
  · rcases h' with h' | ⟨h', h2'⟩
    · exact .inl (by omega)
    · exact .inr ⟨by omega, bl_trans _ _ _ h2 h2'⟩
theorem sRest_iff : ∀ (l : List Cu) (p : Cu), sRest p l = true ↔ (∀ c ∈ l, cOk c = true) ∧ (∀ c ∈ l, cLt p c = true) ∧ l.Pairwise (fun a b => cLt a b = true)
  | [], _ => by simp [sRest]
  | q :: t, p => by
    simp only [sRest, Bool.and_eq_true, sRest_iff t q, List.mem_cons, List.pairwise_cons, forall_eq_or_imp]
    constructor
    · rintro ⟨h1, h2, h3, h4, h5⟩
      exact ⟨⟨h1, h3⟩, ⟨h2, fun c hc => cLt_trans h2 (h4 c hc)⟩, h4, h5⟩
    · rintro ⟨⟨h1, h3⟩, ⟨h2, _⟩, h4, h5⟩
      exact ⟨h1, h2, h3, h4, h5⟩
theorem sAll_iff (l : List Cu) : sAll l = true ↔ (∀ c ∈ l, cOk c = true) ∧ l.Pairwise (fun a b => cLt a b = true) := by
  cases l with
  | nil => simp [sAll]
  | cons q t =>
    simp only [sAll, Bool.and_eq_true, sRest_iff, List.mem_cons, List.pairwise_cons, forall_eq_or_imp]
    constructor
    · rintro ⟨h1, h2, h3, h4⟩; exact ⟨⟨h1, h2⟩, h3, h4⟩
    · rintro ⟨⟨h1, h2⟩, h3, h4⟩; exact ⟨h1, h2, h3, h4⟩
theorem pScore_iff (l : List Cu) : pScore l = true ↔ ((∀ c ∈ l, cOk c = true) ∧ l.Pairwise (fun a b => cLt a b = true)) ∧ l.length ≤ 12 := by
  simp only [pScore, Bool.and_eq_true, sAll_iff, decide_eq_true_eq]
  have : ((l.length : Int) ≤ 12) ↔ l.length ≤ 12 := by omega
  rw [this]
theorem pScore_filter {l : List Cu} (h : pScore l = true) (p : Cu → Bool) : pScore (l.filter p) = true := by
  rw [pScore_iff] at *
  exact ⟨⟨fun c hc => h.1.1 c ((List.mem_filter.1 hc).1), h.1.2.sublist List.filter_sublist⟩, Nat.le_trans (List.length_filter_le _ _) h.2⟩
theorem spec_IsScore_l0 (l : List Cu) (hl : l.length < 1099511627776) (hz : szN l) : ∀ (suf pre : List Cu) (p : Cu), l = (pre ++ [p]) ++ suf →
    Ev (fun k => spec_IsScore.l0 k l l (l.length : Int) ((pre ++ [p]).length : Int)) (sRest p suf && decide ((l.length : Int) ≤ 12)) := by
  intro suf
  induction suf with
  | nil =>
    intro pre p h
    refine ev_succ ?_
    simp only [spec_IsScore.l0, if_neg (ixn h), sRest, Bool.true_and]
    exact Ev.now _
  | cons a t ih =>
    intro pre p h
    obtain ⟨h1, h2, h3, h4⟩ := ix h (by omega)
    obtain ⟨h5, h6, h7, h8⟩ := ix2 h (by omega)
    refine ev_succ ?_
    simp only [spec_IsScore.l0, if_pos h1, if_pos (nn _), Int.toNat_natCast, rd_T42, h2, h3, h6, h7, if_pos h5, if_pos h8]
    rw [sRest]
    refine Ev.bind (spec_IsCue_ev _ _ _ _ (szN_mid hz h)) ?_
    change Ev (fun k => if cOk a = true then _ else _) _
    refine ev_ite (fun c1 => ?_) (fun c1 => ?_)
    · rw [c1, Bool.true_and]
      refine Ev.bind (spec_CompareCues_ev _ _ _ _ _ _ _ _) ?_
      rw [cLt]
      refine ev_ite (fun c3 => ?_) (fun c3 => ?_)
      · rw [decide_eq_false (by omega), Bool.false_and, Bool.false_and]; exact Ev.now _
      · rw [decide_eq_true (by omega), Bool.true_and]; exact ih (pre ++ [p]) a h4
    · rw [Bool.eq_false_iff.2 c1, Bool.false_and, Bool.false_and]; exact Ev.now _
theorem spec_IsScore_ev (l : List Cu) (hl : l.length < 1099511627776) (hz : szN l) : Ev (fun k => spec_IsScore.f k l) (pScore l) := by
  unfold spec_IsScore.f pScore
  refine ev_succ ?_
  cases l with
  | nil =>
    simp only [spec_IsScore.l0]
    exact Ev.now _
  | cons a t =>
    obtain ⟨h1, h2, h3, h4⟩ := ix (l := a :: t) (pre := []) rfl (by omega)
    simp only [List.length_nil, Int.natCast_zero] at h1 h2 h3
    simp only [spec_IsScore.l0, if_pos h1, if_pos (show (0 : Int) ≤ 0 by omega), Int.toNat_zero, rd_T42, h2, h3, if_neg (show ¬ ((0 : Int) > 0) by omega)]
    rw [sAll]
    refine Ev.bind (spec_IsCue_ev _ _ _ _ (szN_mid (pre := []) hz rfl)) ?_
    change Ev (fun k => if cOk a = true then _ else _) _
    refine ev_ite (fun c1 => ?_) (fun c1 => ?_)
    · rw [c1, Bool.true_and]
      exact spec_IsScore_l0 (a :: t) hl hz t [] a rfl
    · rw [Bool.eq_false_iff.2 c1, Bool.false_and, Bool.false_and]; exact Ev.now _
theorem impl_IsScore_l0 (l : List Cu) (hl : l.length < 1099511627776) (hz : szN l) : ∀ (suf pre : List Cu) (p : Cu), l = (pre ++ [p]) ++ suf →
    Ev (fun k => impl_IsScore.l0 k l l (l.length : Int) ((pre ++ [p]).length : Int)) (sRest p suf && decide ((l.length : Int) ≤ 12)) := by
  intro suf
  induction suf with
  | nil =>
    intro pre p h
    refine ev_succ ?_
    simp only [impl_IsScore.l0, if_neg (ixn h), sRest, Bool.true_and]
    exact Ev.now _
  | cons a t ih =>
    intro pre p h
    obtain ⟨h1, h2, h3, h4⟩ := ix h (by omega)
    obtain ⟨h5, h6, h7, h8⟩ := ix2 h (by omega)
    refine ev_succ ?_
    simp only [impl_IsScore.l0, if_pos h1, if_pos (nn _), Int.toNat_natCast, rd_T42, h2, h3, h6, h7, if_pos h5, if_pos h8]
    rw [sRest]
    refine Ev.bind (impl_IsCue_ev _ _ _ _ (szN_mid hz h)) ?_
    change Ev (fun k => if cOk a = true then _ else _) _
    refine ev_ite (fun c1 => ?_) (fun c1 => ?_)
    · rw [c1, Bool.true_and]
      refine Ev.bind (impl_CompareCues_ev _ _ _ _ _ _ _ _) ?_
      rw [cLt]
      refine ev_ite (fun c3 => ?_) (fun c3 => ?_)
      · rw [decide_eq_false (by omega), Bool.false_and, Bool.false_and]; exact Ev.now _
      · rw [decide_eq_true (by omega), Bool.true_and]; exact ih (pre ++ [p]) a h4
    · rw [Bool.eq_false_iff.2 c1, Bool.false_and, Bool.false_and]; exact Ev.now _
theorem impl_IsScore_ev (l : List Cu) (hl : l.length < 1099511627776) (hz : szN l) : Ev (fun k => impl_IsScore.f k l) (pScore l) := by
  unfold impl_IsScore.f pScore
  refine ev_succ ?_
  cases l with
  | nil =>
    simp only [impl_IsScore.l0]
    exact Ev.now _
  | cons a t =>
    obtain ⟨h1, h2, h3, h4⟩ := ix (l := a :: t) (pre := []) rfl (by omega)
    simp only [List.length_nil, Int.natCast_zero] at h1 h2 h3
    simp only [impl_IsScore.l0, if_pos h1, if_pos (show (0 : Int) ≤ 0 by omega), Int.toNat_zero, rd_T42, h2, h3, if_neg (show ¬ ((0 : Int) > 0) by omega)]
    rw [sAll]
    refine Ev.bind (impl_IsCue_ev _ _ _ _ (szN_mid (pre := []) hz rfl)) ?_
    change Ev (fun k => if cOk a = true then _ else _) _
    refine ev_ite (fun c1 => ?_) (fun c1 => ?_)
    · rw [c1, Bool.true_and]
      exact impl_IsScore_l0 (a :: t) hl hz t [] a rfl
    · rw [Bool.eq_false_iff.2 c1, Bool.false_and, Bool.false_and]; exact Ev.now _
theorem laws_markText_l0 : ∀ (d : Nat) (n : Int) (s : ByteArray), 0 ≤ n → n < 10 ^ d → s.size + d ≤ 1000 → ∃ r, Ev (fun k => laws_markText.l0 k n s) r := by
  intro d
  induction d with
  | zero =>
    intro n s h0 h1 h2
    have : n = 0 := by simp at h1; omega
    subst this
    refine ⟨(⟨#[109]⟩ : ByteArray) ++ s, ev_succ ?_⟩
    simp only [laws_markText.l0, if_neg (show ¬ ((0 : Int) > 0) by omega), if_pos (show 1 + s.size ≤ 9223372036854775807 by omega)]
    exact Ev.now _
  | succ d ih =>
    intro n s h0 h1 h2
    by_cases hn : n > 0
    · have ht : Int.tdiv n 10 = n / 10 := Int.tdiv_eq_ediv_of_nonneg h0
      have hs : ∀ x : Int, (strOfNums [x]).size = 1 := fun x => rfl
      have h3 : n / 10 < 10 ^ d := by
        rw [Int.pow_succ] at h1
        generalize (10 : Int) ^ d = q at *
        omega
      by_cases hb : n / 10 < 9223372036854775808
      · obtain ⟨r, e⟩ := ih (n / 10) (strOfNums [(wrap64 (48 + (Int.tmod n 10))) % 256] ++ s) (by omega) h3 (by rw [ByteArray.size_append, hs]; omega)
        refine ⟨r, ev_succ ?_⟩
        simp only [laws_markText.l0, if_pos hn, Option.bind_some, hs, if_pos (show 1 + s.size ≤ 9223372036854775807 by omega), ht]
        rw [show wrap64 (n / 10) = n / 10 by unfold wrap64; omega]
        exact e
      · obtain ⟨r, e⟩ : ∃ r, Ev (fun k => laws_markText.l0 k (wrap64 (n / 10)) (strOfNums [(wrap64 (48 + (Int.tmod n 10))) % 256] ++ s)) r := by
          have : ¬ (wrap64 (n / 10) > 0 ∧ wrap64 (n / 10) ≥ 10 ^ d) ∨ True := .inr trivial
          clear this
          by_cases hp : wrap64 (n / 10) > 0
          · refine ih _ _ (by omega) ?_ (by rw [ByteArray.size_append, hs]; omega)
            have : wrap64 (n / 10) ≤ n / 10 := by unfold wrap64; omega
            omega
          · refine ⟨(⟨#[109]⟩ : ByteArray) ++ (strOfNums [(wrap64 (48 + (Int.tmod n 10))) % 256] ++ s), ev_succ ?_⟩
            simp only [laws_markText.l0, if_neg hp, ByteArray.size_append, hs, if_pos (show 1 + (1 + s.size) ≤ 9223372036854775807 by omega)]
            exact Ev.now _
        refine ⟨r, ev_succ ?_⟩
        simp only [laws_markText.l0, if_pos hn, Option.bind_some, hs, if_pos (show 1 + s.size ≤ 9223372036854775807 by omega), ht]
        exact e
    · refine ⟨(⟨#[109]⟩ : ByteArray) ++ s, ev_succ ?_⟩
      simp only [laws_markText.l0, if_neg hn, if_pos (show 1 + s.size ≤ 9223372036854775807 by omega)]
      exact Ev.now _
theorem laws_markText_ex (n : Int) (h : n < 1000000000000000000000000000000) : ∃ r, Ev (fun k => laws_markText.f k n) r := by
  by_cases h0 : n ≤ 0
  · refine ⟨(⟨#[109, 48]⟩ : ByteArray), ?_⟩
    simp only [laws_markText.f, if_pos h0]
    exact Ev.now _
  · obtain ⟨r, e⟩ := laws_markText_l0 30 n ⟨#[]⟩ (by omega) (by simpa using h) (by decide)
    refine ⟨r, ?_⟩
    simp only [laws_markText.f, if_neg h0]
    exact e
/-- The mark's text. -/
noncomputable def mtT (n : Int) : ByteArray := @dite _ (∃ r, Ev (fun k => laws_markText.f k n) r) (Classical.propDecidable _) (fun h => Classical.choose h) (fun _ => ByteArray.empty)
theorem mtT_ev (n : Int) (h : n < 4611686018427387904) : Ev (fun k => laws_markText.f k n) (mtT n) := by
  have h' := laws_markText_ex n (by omega)
  rw [mtT, dif_pos h']
  exact Classical.choose_spec h'
theorem spec_l7Copies_eq (l : List Cu) (hl : l.length < 1099511627776) : spec_l7Copies.f l = some l := by
  simp only [spec_l7Copies.f, Option.bind_some, List.length_nil, if_pos (show 0 + l.length < 3518437208883 by omega), List.nil_append]
def cCmp (a b : Cu) : Int := pCmpC a.f0 a.f1 b.f0 b.f1
theorem cCmp_cases (a b : Cu) : (cCmp a b < 0 ∧ cLt a b = true) ∨ (cCmp a b = 0 ∧ a.f0 = b.f0 ∧ a.f1.toList = b.f1.toList) ∨ (cCmp a b > 0 ∧ cLt b a = true) := by
  by_cases h : cLt a b = true
  · left; exact ⟨by simpa [cLt, cCmp] using h, h⟩
  · right
    have h' := h
    rw [cLt_iff] at h'
    unfold cCmp pCmpC
    rw [if_neg (fun c => h' (.inl c))]
    by_cases h2 : a.f0 = b.f0
    · rw [if_pos h2, if_neg (fun c => h' (.inr ⟨h2, c⟩))]
      by_cases h3 : a.f1.toList = b.f1.toList
      · left; rw [if_pos h3]; exact ⟨rfl, h2, h3⟩
      · right; rw [if_neg h3]
        refine ⟨by omega, ?_⟩
        rw [cLt_iff]
        refine .inr ⟨h2.symm, ?_⟩
        cases hb : Op.bytesLess b.f1.toList a.f1.toList
        · exact absurd (bl_tri _ _ (Bool.eq_false_iff.2 (fun c => h' (.inr ⟨h2, c⟩))) hb) h3
        · rfl
    · right; rw [if_neg h2]
      refine ⟨by omega, ?_⟩
      rw [cLt_iff]
      exact .inl (by have : ¬ a.f0 < b.f0 := fun c => h' (.inl c)
                     omega)
/-- Where a cue goes. -/
def putTail (c : Cu) : List Cu → Option (List Cu)
  | [] => some [c]
  | d :: t => if cCmp d c < 0 then (putTail c t).map (d :: ·) else if cCmp d c = 0 then none else some (c :: d :: t)
def pPut (l : List Cu) (c : Cu) : List Cu × Bool := match putTail c l with
  | none => (l, false)
  | some r => (r, true)
/-- AddCue -/
def pAdd (l : List Cu) (c : Cu) : List Cu × Bool := if (pScore l && cOk c) = true then (if (pPut l c).2 = true then (if (l.length : Int) = 12 then (l, false) else ((pPut l c).1, true)) else (l, false)) else (l, false)
theorem putTail_mem (c : Cu) : ∀ (l r : List Cu), putTail c l = some r → ∀ x ∈ r, x = c ∨ x ∈ l
  | [], r, h, x, hx => by cases h; simp at hx; exact .inl hx
  | d :: t, r, h, x, hx => by
    unfold putTail at h
    split at h
    · cases ht : putTail c t with
      | none => rw [ht] at h; cases h
      | some r' =>
        rw [ht] at h; cases h
        cases hx with
        | head => exact .inr (by simp)
        | tail _ hx => rcases putTail_mem c t r' ht x hx with h | h
                       · exact .inl h
                       · exact .inr (by simp [h])
    · split at h
      · cases h
      · cases h; simp at hx; rcases hx with h | h | h
        · exact .inl h
        · exact .inr (by simp [h])
        · exact .inr (by simp [h])
theorem putTail_length (c : Cu) : ∀ (l r : List Cu), putTail c l = some r → r.length = l.length + 1
  | [], r, h => by cases h; rfl
  | d :: t, r, h => by
    unfold putTail at h
    split at h
    · cases ht : putTail c t with
      | none => rw [ht] at h; cases h
      | some r' => rw [ht] at h; cases h; simp [putTail_length c t r' ht]
    · split at h
      · cases h
      · cases h; simp
theorem putTail_sorted (c : Cu) : ∀ (l r : List Cu), putTail c l = some r → l.Pairwise (fun a b => cLt a b = true) → r.Pairwise (fun a b => cLt a b = true)
  | [], r, h, _ => by cases h; simp
  | d :: t, r, h, hp => by
    rw [List.pairwise_cons] at hp
    unfold putTail at h
    split at h
    · rename_i hc
      cases ht : putTail c t with
      | none => rw [ht] at h; cases h
      | some r' =>
        rw [ht] at h; cases h
        rw [List.pairwise_cons]
        refine ⟨fun x hx => ?_, putTail_sorted c t r' ht hp.2⟩
        rcases putTail_mem c t r' ht x hx with h | h
        · rw [h]; rcases cCmp_cases d c with h | h | h
          · exact h.2
          · omega
          · omega
        · exact hp.1 x h
    · rename_i hc
      split at h
      · cases h
      · rename_i hc2
        cases h
        have hcd : cLt c d = true := by
          rcases cCmp_cases d c with h | h | h
          · omega
          · omega
          · exact h.2
        rw [List.pairwise_cons, List.pairwise_cons]
        refine ⟨fun x hx => ?_, hp⟩
        cases hx with
        | head => exact hcd
        | tail _ hx => exact cLt_trans hcd (hp.1 x hx)
theorem pAdd_score {l : List Cu} (h : pScore l = true) (c : Cu) : pScore (pAdd l c).1 = true := by
  unfold pAdd
  split
  · rename_i h1
    simp only [Bool.and_eq_true] at h1
    split
    · rename_i h2
      split
      · exact h
      · rename_i h3
        unfold pPut at h2 ⊢
        cases hp : putTail c l with
        | none => rw [hp] at h2; cases h2
        | some r =>
          simp only
          rw [pScore_iff] at h ⊢
          refine ⟨⟨fun x hx => ?_, putTail_sorted c l r hp h.1.2⟩, ?_⟩
          · rcases putTail_mem c l r hp x hx with e | e
            · rw [e]; exact h1.2
            · exact h.1.1 x e
          · rw [putTail_length c l r hp]; have := h.2; omega
    · exact h
  · exact h
theorem pPut_mem {l : List Cu} {c x : Cu} (hx : x ∈ (pPut l c).1) : x = c ∨ x ∈ l := by
  unfold pPut at hx
  cases hp : putTail c l with
  | none => rw [hp] at hx; exact .inr hx
  | some r => rw [hp] at hx; exact putTail_mem c l r hp x hx
theorem pAdd_mem {l : List Cu} {c x : Cu} (hx : x ∈ (pAdd l c).1) : x = c ∨ x ∈ l := by
  unfold pAdd at hx
  split at hx
  · split at hx
    · split at hx
      · exact .inr hx
      · exact pPut_mem hx
    · exact .inr hx
  · exact .inr hx
theorem spec_l7Put_j2 (pre suf : List Cu) (b : Bool) (c : Cu) (hl : (pre ++ suf).length < 1099511627776) :
    Ev (fun k => spec_l7Put.j2 k (pre ++ suf) (pre.length : Int) b c.f0 c.f1 c.f2 c.f3) (if b = true then (pre ++ suf, false) else (pre ++ c :: suf, true)) := by
  refine ev_succ ?_
  have hl2 := hl
  rw [List.length_append] at hl2
  cases b
  · simp only [spec_l7Put.j2, Bool.false_eq_true, if_false, if_pos (nn _), if_pos (show (pre.length : Int) ≤ ((pre.length + suf.length : Nat) : Int) by omega), Int.toNat_natCast, List.take_left, List.drop_left, spec_l7Copies_eq pre (by omega), Option.bind_some, List.length_cons, List.length_nil, List.length_append, if_pos (show pre.length + (0 + 1) < 3518437208883 by omega), if_pos (show pre.length + (0 + 1) + suf.length < 3518437208883 by omega)]
    simpa using Ev.now (pre ++ c :: suf, true)
  · simp only [spec_l7Put.j2, if_true, spec_l7Copies_eq _ hl, Option.bind_some]
    exact Ev.now _
theorem spec_l7Put_l0 (c : Cu) : ∀ (suf pre : List Cu), (pre ++ suf).length < 1099511627776 →
    Ev (fun k => spec_l7Put.l0 k (pre ++ suf) (pre.length : Int) c.f0 c.f1 c.f2 c.f3) (match putTail c suf with | none => (pre ++ suf, false) | some r => (pre ++ r, true)) := by
  intro suf
  induction suf with
  | nil =>
    intro pre hl
    refine ev_succ ?_
    simp only [spec_l7Put.l0, if_neg (ixn (l := pre ++ []) (pre := pre) rfl), putTail]
    refine ev_succ ?_
    simp only [spec_l7Put.j1, if_neg (ixn (l := pre ++ []) (pre := pre) rfl)]
    have := spec_l7Put_j2 pre [] false c hl
    simpa using this
  | cons a t ih =>
    intro pre hl
    obtain ⟨h1, h2, h3, h4⟩ := ix (l := pre ++ a :: t) rfl (by omega)
    refine ev_succ ?_
    simp only [spec_l7Put.l0, if_pos h1, if_pos (nn _), Int.toNat_natCast, rd_T42, h2, h3]
    refine Ev.bind (spec_CompareCues_ev _ _ _ _ _ _ _ _) ?_
    change Ev (fun k => if cCmp a c < 0 then _ else _) _
    rw [putTail]
    refine ev_ite (fun d => ?_) (fun d => ?_)
    · rw [if_pos d]
      have := ih (pre ++ [a]) (by simpa using hl)
      rw [← app1] at this
      cases hp : putTail c t with
      | none => rw [hp] at this; exact this
      | some r => rw [hp] at this; simpa using this
    · rw [if_neg d]
      refine ev_succ ?_
      simp only [spec_l7Put.j1, if_pos h1, if_pos (nn _), Int.toNat_natCast, rd_T42, h2, h3]
      refine Ev.bind (spec_CompareCues_ev _ _ _ _ _ _ _ _) ?_
      change Ev (fun k => spec_l7Put.j2 k (pre ++ a :: t) (pre.length : Int) (cCmp a c == 0) c.f0 c.f1 c.f2 c.f3) _
      have := spec_l7Put_j2 pre (a :: t) (cCmp a c == 0) c hl
      by_cases e : cCmp a c = 0
      · rw [if_pos e]; rw [if_pos (by simpa using e)] at this; exact this
      · rw [if_neg e]; rw [if_neg (by simpa using e)] at this; exact this
theorem spec_l7Put_ev (l : List Cu) (c : Cu) (hl : l.length < 1099511627776) : Ev (fun k => spec_l7Put.f k l c.f0 c.f1 c.f2 c.f3) (pPut l c) := by
  have := spec_l7Put_l0 c l [] (by simpa using hl)
  unfold pPut
  cases hp : putTail c l with
  | none => rw [hp] at this; exact this
  | some r => rw [hp] at this; exact this
theorem spec_AddCue_ev (l : List Cu) (c : Cu) (hl : l.length < 1099511627776) (hz : szN l) (hc : c.f1.size ≤ 9223372036854775807) : Ev (fun k => spec_AddCue.f k l c.f0 c.f1 c.f2 c.f3) (pAdd l c) := by
  unfold spec_AddCue.f
  refine Ev.bind (spec_l7Put_ev l c hl) ?_
  refine Ev.bind (spec_IsScore_ev l hl hz) ?_
  simp only [spec_l7Copies_eq l hl, Option.bind_some, pAdd]
  refine ev_ite (fun h => ?_) (fun h => ?_)
  · refine Ev.bind (spec_IsCue_ev _ _ _ _ hc) ?_
    change Ev (fun k => if cOk c = true then _ else _) _
    refine ev_ite (fun h2 => ?_) (fun h2 => ?_)
    · have hh : (pScore l && cOk c) = true := by rw [h, h2]; rfl
      rw [if_pos hh]
      refine ev_ite (fun h3 => ?_) (fun h3 => ?_)
      · rw [if_pos h3]
        refine ev_ite (fun h4 => ?_) (fun h4 => ?_)
        · rw [if_pos h4]; exact Ev.now _
        · rw [if_neg h4]; exact Ev.now _
      · rw [if_neg h3]; exact Ev.now _
    · have hh : ¬ (pScore l && cOk c) = true := by rw [Bool.and_eq_true]; exact fun e => h2 e.2
      rw [if_neg hh]; exact Ev.now _
  · have hh : ¬ (pScore l && cOk c) = true := by rw [Bool.and_eq_true]; exact fun e => h e.1
    rw [if_neg hh]; exact Ev.now _
theorem l1Str_ok (b : List Int) (i h : Int) (l : List ByteArray) (hb : b.length < 1099511627776) (hi : 0 ≤ i) (hl : l ≠ []) : ∃ r i' h', spec_l1Str.f b i h l = some (r, i', h') ∧ 0 ≤ i' ∧ r ∈ l := by
  obtain ⟨r, i', h', e, hi', h0, h1⟩ := l1Below_ok b i h (l.length : Int) hb hi
  have hp : 0 < l.length := List.length_pos_iff.2 hl
  unfold spec_l1Str.f
  rw [e]; simp only [Option.bind_some]
  have hlt : r < (l.length : Int) := by omega
  rw [if_pos h0, if_pos hlt]
  refine ⟨_, _, _, rfl, hi', ?_⟩
  have h2 : r.toNat < l.length := by omega
  simp only [rdOf, List.getD_eq_getElem?_getD, List.getElem?_eq_getElem h2, Option.getD_some]
  exact List.getElem_mem _
def nmL : List ByteArray := [(⟨#[97]⟩ : ByteArray), (⟨#[97]⟩ : ByteArray), (⟨#[98]⟩ : ByteArray), (⟨#[99]⟩ : ByteArray), (⟨#[114]⟩ : ByteArray), (⟨#[110, 111]⟩ : ByteArray)]
theorem nmL_size : ∀ x ∈ nmL, x.size ≤ 9223372036854775807 := by
  intro x hx
  simp only [nmL, List.mem_cons, List.not_mem_nil, or_false] at hx
  rcases hx with h | h | h | h | h | h <;> subst h <;> decide
theorem l7Name_ok (b : List Int) (i h : Int) (hb : b.length < 1099511627776) (hi : 0 ≤ i) : ∃ r i' h', spec_l7Name.f b i h = some (r, i', h') ∧ 0 ≤ i' ∧ r ∈ nmL := by
  obtain ⟨r, i', h', e, hi', hr⟩ := l1Str_ok b i h nmL hb hi (by simp [nmL])
  unfold spec_l7Name.f
  change ∃ r i' h', ((spec_l1Str.f b i h nmL).bind fun bt => some (bt.1, bt.2.1, bt.2.2)) = _ ∧ _
  rw [e]
  exact ⟨_, _, _, rfl, hi', hr⟩
theorem l7Cue_ok (b : List Int) (i h : Int) (hb : b.length < 1099511627776) (hi : 0 ≤ i) : ∃ t n v r i' h', spec_l7Cue.f b i h = some (t, n, v, r, i', h') ∧ 0 ≤ i' ∧ n ∈ nmL ∧ t < 14 := by
  obtain ⟨t, i1, h1, e1, hi1, _, ht⟩ := l1Below_ok b i h 14 hb hi
  obtain ⟨n, i2, h2, e2, hi2, hn⟩ := l7Name_ok b i1 h1 hb hi1
  obtain ⟨v, i3, h3, e3, hi3, _⟩ := l1Below_ok b i2 h2 33 hb hi2
  obtain ⟨r, i4, h4, e4, hi4, _⟩ := l1Int_ok b i3 h3 [0, 0, 1, 2, 3, 5, 8, 16] hb hi3 (by simp)
  unfold spec_l7Cue.f
  simp only [e1, e2, e3, e4, Option.bind_some]
  exact ⟨_, _, _, _, _, _, rfl, hi4, hn, by omega⟩
/-- A drawn score. -/
def dScore (l : List Cu) : Prop := pScore l = true ∧ ∀ c ∈ l, c.f1 ∈ nmL ∧ c.f0 < 14
theorem dScore_sz {l : List Cu} (h : dScore l) : szN l := fun c hc => nmL_size _ (h.2 c hc).1
theorem dScore_len {l : List Cu} (h : dScore l) : l.length < 1099511627776 := by have := pScore_len h.1; omega
theorem dScore_nil : dScore [] := ⟨rfl, fun c hc => by cases hc⟩
theorem l7Draw_l0 (b : List Int) (hb : b.length < 1099511627776) : ∀ (n : Nat) (l : List Cu) (i h : Int), (n : Int) < 1099511627776 → 0 ≤ i → dScore l →
    ∃ r i' h', Ev (fun k => spec_l7Draw.l0 k l (n : Int) b i h) (r, i', h') ∧ 0 ≤ i' ∧ dScore r := by
  intro n
  induction n with
  | zero =>
    intro l i h _ hi hl
    refine ⟨l, i, h, ev_succ ?_, hi, hl⟩
    simp only [spec_l7Draw.l0, if_neg (show ¬ (((0 : Nat) : Int) > 0) by omega)]
    exact Ev.now _
  | succ n ih =>
    intro l i h hn hi hl
    obtain ⟨t, m, v, q, i1, h1, e1, hi1, hm, ht14⟩ := l7Cue_ok b i h hb hi
    have hd : dScore (pAdd l ⟨t, m, v, q⟩).1 := ⟨pAdd_score hl.1 _, fun c hc => by
      rcases pAdd_mem hc with h | h
      · rw [h]; exact ⟨hm, ht14⟩
      · exact hl.2 c h⟩
    obtain ⟨r, i', h', e, hi', hr⟩ := ih (pAdd l ⟨t, m, v, q⟩).1 i1 h1 (by omega) hi1 hd
    refine ⟨r, i', h', ev_succ ?_, hi', hr⟩
    simp only [spec_l7Draw.l0, if_pos (show (((n + 1 : Nat) : Int) > 0) by omega), e1, Option.bind_some]
    refine Ev.bind (spec_AddCue_ev l ⟨t, m, v, q⟩ (dScore_len hl) (dScore_sz hl) (nmL_size _ hm)) ?_
    rw [show wrap64 (((n + 1 : Nat) : Int) - 1) = (n : Int) by unfold wrap64; omega]
    exact e
theorem l7Draw_ok (b : List Int) (i h n : Int) (hb : b.length < 1099511627776) (hi : 0 ≤ i) (hn : 0 ≤ n) (hn2 : n < 1000) : ∃ r i' h', Ev (fun k => spec_l7Draw.f k b i h n) (r, i', h') ∧ 0 ≤ i' ∧ dScore r := by
  have hw : wrap64 (n + 1) = n + 1 := by unfold wrap64; omega
  obtain ⟨c, i1, h1, e1, hi1, hc0, hc1⟩ := l1Below_ok b i h (n + 1) hb hi
  obtain ⟨m, rfl⟩ := Int.eq_ofNat_of_zero_le hc0
  obtain ⟨r, i', h', e, hi', hr⟩ := l7Draw_l0 b hb m [] i1 h1 (by omega) hi1 dScore_nil
  refine ⟨r, i', h', ?_, hi', hr⟩
  simp only [spec_l7Draw.f, hw, e1, Option.bind_some]
  exact e
theorem laws_cues_l0 (x : List Cu) (hl : x.length < 1099511627776) : ∀ (d i : Nat), i + d = x.length → Ev (fun k => laws_cues.l0 k x x (i : Int)) true := by
  intro d
  induction d with
  | zero =>
    intro i h
    refine ev_succ ?_
    simp only [laws_cues.l0, if_neg (show ¬ ((i : Int) < (x.length : Int)) by omega)]
    exact Ev.now _
  | succ d ih =>
    intro i h
    refine ev_succ ?_
    simp only [laws_cues.l0, if_pos (show ((i : Int) < (x.length : Int)) by omega), if_pos (nn _), beq_self_eq_true, Bool.not_true, Bool.or_false, Bool.false_eq_true, if_false]
    rw [show wrap64 ((i : Int) + 1) = ((i + 1 : Nat) : Int) by unfold wrap64; omega]
    exact ih (i + 1) (by omega)
theorem laws_cues_rfl (x : List Cu) (hl : x.length < 1099511627776) : Ev (fun k => laws_cues.f k x x) true := by
  simp only [laws_cues.f, if_true]
  exact laws_cues_l0 x hl x.length 0 (by omega)
theorem impl_Clone_eq (l : List Cu) (hl : l.length < 1099511627776) : impl_Cue.f l = some l := by
  simp only [impl_Cue.f, Option.bind_some, List.length_nil, if_pos (show 0 + l.length < 3518437208883 by omega), List.nil_append]
/-- The first place from i on of a cue with a tick and a name; -1: there is none. -/
def cuIs (t : Int) (n : ByteArray) (c : Cu) : Bool := c.f0 == t && c.f1.toList == n.toList
def cuAt (t : Int) (n : ByteArray) : List Cu → Int → Int
  | [], _ => -1
  | c :: l, i => if cuIs t n c = true then i else cuAt t n l (i + 1)
/-- RemoveCue -/
def pRemove (l : List Cu) (t : Int) (n : ByteArray) : List Cu × Bool :=
  if pScore l = true then (if (l.filter (fun c => !cuIs t n c)).length = l.length then (l, false) else (l.filter (fun c => !cuIs t n c), true)) else (l, false)
theorem cLt_ne {a b : Cu} (h : cLt a b = true) (t : Int) (n : ByteArray) : cuIs t n a = true → cuIs t n b = false := by
  intro ha
  rw [Bool.eq_false_iff]
  intro hb
  simp only [cuIs, Bool.and_eq_true, beq_iff_eq] at ha hb
  rw [cLt_iff] at h
  rcases h with h | ⟨_, h⟩
  · omega
  · rw [ha.2, hb.2, bl_irrefl] at h; cases h
theorem cuAt_spec (t : Int) (n : ByteArray) : ∀ (suf pre : List Cu), (∀ c ∈ pre, cuIs t n c = false) → (suf.Pairwise (fun a b => cLt a b = true)) →
    (cuAt t n suf (pre.length : Int) = -1 ∧ (pre ++ suf).filter (fun c => !cuIs t n c) = pre ++ suf) ∨
    (∃ j : Nat, cuAt t n suf (pre.length : Int) = (j : Int) ∧ j < (pre ++ suf).length ∧ (pre ++ suf).filter (fun c => !cuIs t n c) = (pre ++ suf).take j ++ (pre ++ suf).drop (j + 1))
  | [], pre, hp, _ => .inl ⟨rfl, by rw [List.append_nil, List.filter_eq_self]; intro c hc; rw [hp c hc]; rfl⟩
  | c :: l, pre, hp, hs => by
    rw [List.pairwise_cons] at hs
    by_cases h : cuIs t n c = true
    · refine .inr ⟨pre.length, by rw [cuAt, if_pos h], by simp, ?_⟩
      rw [List.take_left, show (pre ++ c :: l).drop (pre.length + 1) = l by simp, List.filter_append, List.filter_cons_of_neg (by rw [h]; decide)]
      rw [List.filter_eq_self.2 (fun x hx => by rw [hp x hx]; rfl), List.filter_eq_self.2 (fun x hx => by rw [cLt_ne (hs.1 x hx) t n h]; rfl)]
    · have := cuAt_spec t n l (pre ++ [c]) (fun x hx => by
        rcases List.mem_append.1 hx with hx | hx
        · exact hp x hx
        · rw [List.mem_singleton.1 hx]; exact Bool.eq_false_iff.2 h) hs.2
      rw [cuAt, if_neg h]
      have e : ((pre ++ [c]).length : Int) = (pre.length : Int) + 1 := by simp
      rw [e] at this
      simpa using this
theorem impl_cueAt_l0 (l : List Cu) (t : Int) (n : ByteArray) (hl : l.length < 1099511627776) : ∀ (suf pre : List Cu), l = pre ++ suf →
    Ev (fun k => impl_cueAt.l0 k l t n (pre.length : Int)) (cuAt t n suf (pre.length : Int)) := by
  intro suf
  induction suf with
  | nil =>
    intro pre h
    refine ev_succ ?_
    simp only [impl_cueAt.l0, if_neg (ixn h), cuAt]
    exact Ev.now _
  | cons a s ih =>
    intro pre h
    obtain ⟨h1, h2, h3, h4⟩ := ix h (by omega)
    refine ev_succ ?_
    simp only [impl_cueAt.l0, if_pos h1, if_pos (nn _), Int.toNat_natCast, rd_T42, h2, h3]
    rw [cuAt]
    change Ev (fun k => if cuIs t n a = true then _ else _) _
    refine ev_ite (fun c => ?_) (fun c => ?_)
    · rw [if_pos c]; exact Ev.now _
    · rw [if_neg c]
      have := ih _ h4
      rwa [show ((pre ++ [a]).length : Int) = (pre.length : Int) + 1 by simp] at this ⊢
theorem impl_cueAt_ev (l : List Cu) (t : Int) (n : ByteArray) (hl : l.length < 1099511627776) : Ev (fun k => impl_cueAt.f k l t n) (cuAt t n l 0) := impl_cueAt_l0 l t n hl l [] rfl
def cuPos (c : Cu) : List Cu → Nat
  | [] => 0
  | d :: t => if cCmp d c < 0 then cuPos c t + 1 else 0
theorem cuPos_le (c : Cu) : ∀ l, cuPos c l ≤ l.length
  | [] => Nat.le_refl _
  | d :: t => by
    unfold cuPos
    split
    · have := cuPos_le c t; simp; omega
    · omega
theorem putTail_pos (c : Cu) : ∀ l, putTail c l = none ∨ putTail c l = some (l.take (cuPos c l) ++ [c] ++ l.drop (cuPos c l))
  | [] => .inr rfl
  | d :: t => by
    unfold putTail cuPos
    by_cases h : cCmp d c < 0
    · rw [if_pos h, if_pos h]
      rcases putTail_pos c t with e | e
      · left; rw [e]; rfl
      · right; rw [e]; simp
    · rw [if_neg h, if_neg h]
      by_cases h2 : cCmp d c = 0
      · left; rw [if_pos h2]
      · right; rw [if_neg h2]; simp
theorem putTail_none_iff (c : Cu) : ∀ (l : List Cu), l.Pairwise (fun a b => cLt a b = true) → (putTail c l = none ↔ ∃ d ∈ l, cuIs c.f0 c.f1 d = true)
  | [], _ => by simp [putTail]
  | d :: t, hs => by
    rw [List.pairwise_cons] at hs
    unfold putTail
    have ih := putTail_none_iff c t hs.2
    rcases cCmp_cases d c with ⟨h, hl⟩ | ⟨h, h1, h2⟩ | ⟨h, hl⟩
    · rw [if_pos h]
      have hd : cuIs c.f0 c.f1 d = false := by
        rw [Bool.eq_false_iff]
        intro hd
        have := cLt_ne hl c.f0 c.f1 hd
        rw [show cuIs c.f0 c.f1 c = true by simp [cuIs]] at this
        cases this
      have : (putTail c t).map (d :: ·) = none ↔ putTail c t = none := by cases putTail c t <;> simp
      rw [this, ih]
      simp [hd]
    · rw [if_neg (by omega), if_pos h]
      simp [cuIs, h1, h2]
    · rw [if_neg (by omega), if_neg (by omega)]
      have hc : cuIs c.f0 c.f1 c = true := by simp [cuIs]
      simp only [reduceCtorEq, false_iff]
      rintro ⟨x, hx, hxe⟩
      cases hx with
      | head => rw [cLt_ne hl _ _ hc] at hxe; cases hxe
      | tail _ hx => rw [cLt_ne (cLt_trans hl (hs.1 x hx)) _ _ hc] at hxe; cases hxe
theorem cuAt_iff (t : Int) (n : ByteArray) : ∀ (l : List Cu) (i : Int), 0 ≤ i → (0 ≤ cuAt t n l i ↔ ∃ d ∈ l, cuIs t n d = true)
  | [], i, h => by simp [cuAt]
  | d :: l, i, h => by
    unfold cuAt
    by_cases hd : cuIs t n d = true
    · rw [if_pos hd]; simp [hd, h]
    · rw [if_neg hd, cuAt_iff t n l (i + 1) (by omega)]; simp [hd]
theorem pAdd_eq (l : List Cu) (c : Cu) : pAdd l c = if pScore l = true ∧ cOk c = true ∧ ¬ 0 ≤ cuAt c.f0 c.f1 l 0 ∧ ¬ 12 ≤ (l.length : Int) then (l.take (cuPos c l) ++ [c] ++ l.drop (cuPos c l), true) else (l, false) := by
  unfold pAdd
  by_cases h1 : pScore l = true
  · by_cases h2 : cOk c = true
    · have hs := (pScore_iff l).1 h1
      rw [if_pos (by rw [h1, h2]; rfl)]
      have hi := putTail_none_iff c l hs.1.2
      rw [← cuAt_iff c.f0 c.f1 l 0 (by omega)] at hi
      unfold pPut
      rcases putTail_pos c l with e | e
      · rw [if_neg (show ¬ (pScore l = true ∧ cOk c = true ∧ ¬ 0 ≤ cuAt c.f0 c.f1 l 0 ∧ ¬ 12 ≤ (l.length : Int)) from fun x => x.2.2.1 (hi.1 e)), e]
        rfl
      · have hn : ¬ 0 ≤ cuAt c.f0 c.f1 l 0 := fun x => by rw [hi.2 x] at e; cases e
        rw [e]
        simp only [if_true]
        by_cases h3 : (l.length : Int) = 12
        · rw [if_pos h3, if_neg (fun x => x.2.2.2 (by omega))]
        · rw [if_neg h3, if_pos ⟨h1, h2, hn, by have := hs.2; omega⟩]
    · rw [if_neg (by simp [h1, h2]), if_neg (fun x => h2 x.2.1)]
  · rw [if_neg (by simp [h1]), if_neg (fun x => h1 x.1)]
theorem insRow_eq (l : List Cu) (c : Cu) (j : Nat) (hj : j ≤ l.length) (hl : l.length ≤ 1000) : insRow l (j : Int) ([c] : List Cu) = some (l.take j ++ [c] ++ l.drop j) := by
  unfold insRow
  rw [if_pos ⟨by omega, by omega, by omega, rfl⟩, Int.toNat_natCast]
theorem impl_AddCue_l0 (l : List Cu) (c : Cu) (hl : l.length ≤ 1000) : ∀ (suf pre : List Cu), l = pre ++ suf →
    Ev (fun k => impl_AddCue.l0 k l l (pre.length : Int) c.f0 c.f1 c.f2 c.f3) (l.take (pre.length + cuPos c suf) ++ [c] ++ l.drop (pre.length + cuPos c suf), true) := by
  intro suf
  induction suf with
  | nil =>
    intro pre h
    have hp : pre.length ≤ l.length := by rw [h]; simp
    refine ev_succ ?_
    simp only [impl_AddCue.l0, if_neg (ixn h), cuPos, Nat.add_zero]
    rw [show insRow l (pre.length : Int) ([(⟨c.f0, c.f1, c.f2, c.f3⟩ : Cu)] : List Cu) = _ from insRow_eq l c pre.length hp hl]
    exact Ev.now _
  | cons a s ih =>
    intro pre h
    have hp : pre.length ≤ l.length := by rw [h]; simp
    obtain ⟨h1, h2, h3, h4⟩ := ix h (by omega)
    refine ev_succ ?_
    simp only [impl_AddCue.l0, if_pos h1, if_pos (nn _), Int.toNat_natCast, rd_T42, h2, h3]
    refine Ev.bind (impl_CompareCues_ev _ _ _ _ _ _ _ _) ?_
    change Ev (fun k => if cCmp a c < 0 then _ else _) _
    rw [cuPos]
    refine ev_ite (fun d => ?_) (fun d => ?_)
    · rw [if_pos d]
      have := ih _ h4
      rw [show (pre ++ [a]).length + cuPos c s = pre.length + (cuPos c s + 1) by simp; omega] at this
      exact this
    · rw [if_neg d, Nat.add_zero]
      rw [show insRow l (pre.length : Int) ([(⟨c.f0, c.f1, c.f2, c.f3⟩ : Cu)] : List Cu) = _ from insRow_eq l c pre.length hp hl]
      exact Ev.now _
theorem impl_AddCue_ev (l : List Cu) (c : Cu) (hl : l.length < 1099511627776) (hz : szN l) (hc : c.f1.size ≤ 9223372036854775807) : Ev (fun k => impl_AddCue.f k l c.f0 c.f1 c.f2 c.f3) (pAdd l c) := by
  have j1 : Ev (fun k => impl_AddCue.j0 k l l true c.f0 c.f1 c.f2 c.f3) (l, false) := by
    refine ev_succ ?_
    simp only [impl_AddCue.j0, if_true]; exact Ev.now _
  rw [pAdd_eq]
  simp only [impl_AddCue.f, impl_Clone_eq l hl, Option.bind_some]
  refine Ev.bind (impl_IsScore_ev l hl hz) ?_
  refine ev_ite (fun h1 => ?_) (fun h1 => ?_)
  · refine Ev.bind (impl_IsCue_ev _ _ _ _ hc) ?_
    change Ev (fun k => if cOk c = true then _ else _) _
    refine ev_ite (fun h2 => ?_) (fun h2 => ?_)
    · refine Ev.bind (impl_cueAt_ev l c.f0 c.f1 hl) ?_
      refine ev_ite (fun h3 => ?_) (fun h3 => ?_)
      · rw [if_neg (fun x => x.2.2.1 h3)]; exact j1
      · by_cases h4 : 12 ≤ (l.length : Int)
        · rw [if_neg (fun x => x.2.2.2 h4), decide_eq_true h4]; exact j1
        · rw [if_pos ⟨h1, h2, h3, h4⟩, decide_eq_false h4]
          refine ev_succ ?_
          simp only [impl_AddCue.j0, Bool.false_eq_true, if_false]
          have := impl_AddCue_l0 l c (by omega) l [] rfl
          simpa using this
    · rw [if_neg (fun x => h2 x.2.1)]; exact j1
  · rw [if_neg (fun x => h1 x.1)]; exact j1
theorem impl_RemoveCue_ev (l : List Cu) (t : Int) (n : ByteArray) (hl : l.length < 1099511627776) (hz : szN l) : Ev (fun k => impl_RemoveCue.f k l t n) (pRemove l t n) := by
  simp only [impl_RemoveCue.f, impl_Clone_eq l hl, Option.bind_some, pRemove]
  refine Ev.bind (impl_cueAt_ev l t n hl) ?_
  refine Ev.bind (impl_IsScore_ev l hl hz) ?_
  by_cases hp : pScore l = true
  · simp only [hp, if_true]
    have hp2 := (pScore_iff l).1 hp
    rcases cuAt_spec t n l [] (by simp) hp2.1.2 with ⟨h1, h2⟩ | ⟨j, h1, h2, h3⟩
    · simp only [List.length_nil, Int.natCast_zero, List.nil_append] at h1 h2
      rw [h1, h2]
      simp only [if_pos (show (-1 : Int) < 0 by omega), if_true]
      exact Ev.now _
    · simp only [List.length_nil, Int.natCast_zero, List.nil_append] at h1 h2 h3
      rw [h1, h3]
      have hne : ¬ (l.take j ++ l.drop (j + 1)).length = l.length := by rw [List.length_append, List.length_take, List.length_drop]; omega
      have hd : delRow l (j : Int) = some (l.take j ++ l.drop (j + 1)) := by
        unfold delRow
        rw [if_pos ⟨by omega, by omega, by have := hp2.2; omega⟩, Int.toNat_natCast]
      simp only [if_neg (show ¬ (j : Int) < 0 by omega), hd, Option.bind_some, if_neg hne]
      exact Ev.now _
  · simp only [hp, if_false]
    exact Ev.now _
theorem l1Word_ok (b : List Int) (i h : Int) (hb : b.length < 1099511627776) (hi : 0 ≤ i) : ∃ r i' h', spec_l1Word.f b i h = some (r, i', h') ∧ 0 ≤ i' ∧ r.size ≤ 1000 := by
  have key : ∀ L : List ByteArray, L ≠ [] → (∀ x ∈ L, x.size ≤ 1000) → ∃ r i' h', ((spec_l1Str.f b i h L).bind fun bt => some (bt.1, bt.2.1, bt.2.2)) = some (r, i', h') ∧ 0 ≤ i' ∧ r.size ≤ 1000 := by
    intro L h1 h2
    obtain ⟨r, i', h', e, hi', hr⟩ := l1Str_ok b i h L hb hi h1
    exact ⟨r, i', h', by rw [e]; rfl, hi', h2 r hr⟩
  exact key _ (by simp) (by decide)
theorem l7Any_ok (b : List Int) (i h : Int) (hb : b.length < 1099511627776) (hi : 0 ≤ i) : ∃ t n v r i' h', spec_l7Any.f b i h = some (t, n, v, r, i', h') ∧ 0 ≤ i' ∧ n.size ≤ 9223372036854775807 := by
  obtain ⟨t, n, v, r, i1, h1, e1, hi1, hn, _⟩ := l7Cue_ok b i h hb hi
  have hns := nmL_size n hn
  obtain ⟨x, i2, h2, e2, hi2, _⟩ := l1Below_ok b i1 h1 12 hb hi1
  unfold spec_l7Any.f
  simp only [e1, e2, Option.bind_some]
  split
  · obtain ⟨y, i3, h3, e3, hi3⟩ := l1Odd_ok b i2 h2 hb hi2
    simp only [e3, Option.bind_some]
    exact ⟨_, _, _, _, _, _, rfl, hi3, hns⟩
  · split
    · obtain ⟨y, i3, h3, e3, hi3, hy⟩ := l1Word_ok b i2 h2 hb hi2
      simp only [e3, Option.bind_some]
      exact ⟨_, _, _, _, _, _, rfl, hi3, by omega⟩
    · split
      · obtain ⟨y, i3, h3, e3, hi3, _⟩ := l1Int_ok b i2 h2 [(-1), 32, 33, 1000] hb hi2 (by simp)
        simp only [e3, Option.bind_some]
        exact ⟨_, _, _, _, _, _, rfl, hi3, hns⟩
      · split
        · obtain ⟨y, i3, h3, e3, hi3⟩ := l1Odd_ok b i2 h2 hb hi2
          simp only [e3, Option.bind_some]
          exact ⟨_, _, _, _, _, _, rfl, hi3, hns⟩
        · exact ⟨_, _, _, _, _, _, rfl, hi2, hns⟩
theorem l7List_l0 (b : List Int) (hb : b.length < 1099511627776) : ∀ (d : Nat) (l : List Cu) (j i h : Int), l.length + d = 13 → 0 ≤ i → szN l →
    ∃ r i' h', Ev (fun k => spec_l7List.l0 k l j b i h) (r, i', h') ∧ 0 ≤ i' ∧ r.length ≤ 20 ∧ szN r := by
  intro d
  induction d with
  | zero =>
    intro l j i h hl hi hz
    obtain ⟨x, i1, h1, e1, hi1, hx⟩ := l1Int_ok b i h [12, 13] hb hi (by simp)
    have hx' : x = 12 ∨ x = 13 := by simpa using hx
    refine ⟨l.take x.toNat, i1, h1, ev_succ ?_, hi1, by rw [List.length_take]; omega, fun c hc => hz c (List.mem_of_mem_take hc)⟩
    simp only [spec_l7List.l0, if_neg (show ¬ ((l.length : Int) < 13) by omega), e1, Option.bind_some, if_pos (show 0 ≤ x by omega), if_pos (show x ≤ (l.length : Int) by omega)]
    exact Ev.now _
  | succ d ih =>
    intro l j i h hl hi hz
    obtain ⟨r, i', h', e, hi', hr, hrz⟩ := ih (l ++ [⟨wrap64 (30 + j), (⟨#[97]⟩ : ByteArray), j, 0⟩]) (wrap64 (j + 1)) i h (by simp; omega) hi (fun c hc => by
      rcases List.mem_append.1 hc with hc | hc
      · exact hz c hc
      · rw [List.mem_singleton.1 hc]; show (1 : Nat) ≤ _; omega)
    refine ⟨r, i', h', ev_succ ?_, hi', hr, hrz⟩
    simp only [spec_l7List.l0, if_pos (show (l.length : Int) < 13 by omega), if_pos (show l.length < 3518437208883 by omega)]
    exact e
theorem l7List_ok (b : List Int) (i h : Int) (hb : b.length < 1099511627776) (hi : 0 ≤ i) : ∃ r i' h', Ev (fun k => spec_l7List.f k b i h) (r, i', h') ∧ 0 ≤ i' ∧ r.length ≤ 20 ∧ szN r := by
  obtain ⟨l, i1, h1, e1, hi1, hd⟩ := l7Draw_ok b i h 7 hb hi (by omega) (by omega)
  obtain ⟨x, i2, h2, e2, hi2, _⟩ := l1Below_ok b i1 h1 14 hb hi1
  have hl := pScore_len hd.1
  have hz := dScore_sz hd
  by_cases x0 : x = 0
  · obtain ⟨t, n, v, r, i3, h3, e3, hi3, hn⟩ := l7Any_ok b i2 h2 hb hi2
    refine ⟨l ++ [⟨t, n, v, r⟩], i3, h3, ?_, hi3, by simp; omega, fun c hc => ?_⟩
    · unfold spec_l7List.f
      refine Ev.bind e1 ?_
      simp only [e2, Option.bind_some, if_pos x0, e3, if_pos (show l.length < 3518437208883 by omega)]
      exact Ev.now _
    · rcases List.mem_append.1 hc with hc | hc
      · exact hz c hc
      · rw [List.mem_singleton.1 hc]; exact hn
  · by_cases x1 : x = 1
    · obtain ⟨r, i3, h3, e3, hi3, hr, hrz⟩ := l7List_l0 b hb (13 - l.length) l 0 i2 h2 (by omega) hi2 hz
      refine ⟨r, i3, h3, ?_, hi3, hr, hrz⟩
      unfold spec_l7List.f
      refine Ev.bind e1 ?_
      simp only [e2, Option.bind_some, if_neg x0, if_pos x1]
      exact e3
    · refine ⟨l, i2, h2, ?_, hi2, by omega, hz⟩
      unfold spec_l7List.f
      refine Ev.bind e1 ?_
      simp only [e2, Option.bind_some, if_neg x0, if_neg x1]
      exact Ev.now _
theorem DrawAddCue_ok (b : List Int) (hb : b.length < 1099511627776) : ∃ (l : List Cu) (c : Cu), Ev (fun k => spec_DrawAddCue.f k b) (l, c.f0, c.f1, c.f2, c.f3) ∧ l.length ≤ 20 ∧ szN l ∧ c.f1.size ≤ 9223372036854775807 := by
  obtain ⟨h0, e0⟩ := l1New_ev b hb
  obtain ⟨l, i1, h1, e1, hi1, hl, hz⟩ := l7List_ok b 0 h0 hb (by omega)
  obtain ⟨t, n, v, r, i2, h2, e2, hi2, hn⟩ := l7Any_ok b i1 h1 hb hi1
  refine ⟨l, ⟨t, n, v, r⟩, ?_, hl, hz, hn⟩
  unfold spec_DrawAddCue.f
  refine Ev.bind e0 ?_
  refine Ev.bind e1 ?_
  simp only [e2, Option.bind_some]
  exact Ev.now _
theorem FnCues : laws_FnCues.Pure := by
  intro b _ hb' _
  refine Ev.rounds ?_
  simp only [laws_FnCues.f, laws_big_eq, Option.bind_some, decide_eq_true_eq]
  refine ev_ite (fun _ => Ev.now _) (fun h => ?_)
  have hb : b.length < 1099511627776 := by omega
  obtain ⟨l, c, e, hl, hz, hc⟩ := DrawAddCue_ok b hb
  refine Ev.bind e ?_
  have hll : l.length < 1099511627776 := by omega
  refine Ev.bind (impl_AddCue_ev l c hll hz hc) ?_
  have hadd := pAdd_eq l c
  by_cases hp : pScore l = true ∧ cOk c = true ∧ ¬ 0 ≤ cuAt c.f0 c.f1 l 0 ∧ ¬ 12 ≤ (l.length : Int)
  · rw [if_pos hp] at hadd
    have hs := pAdd_score hp.1 c
    rw [hadd] at hs ⊢
    simp only at hs
    simp only [if_true]
    have hno : ∀ d ∈ l, cuIs c.f0 c.f1 d = false := fun d hd => by
      rw [Bool.eq_false_iff]
      intro hx
      exact hp.2.2.1 ((cuAt_iff c.f0 c.f1 l 0 (by omega)).2 ⟨d, hd, hx⟩)
    have hcc : cuIs c.f0 c.f1 c = true := by simp [cuIs]
    generalize hA : l.take (cuPos c l) = A at hs ⊢
    generalize hB : l.drop (cuPos c l) = B at hs ⊢
    have hAB : A ++ B = l := by rw [← hA, ← hB, List.take_append_drop]
    have hA0 : ∀ d ∈ A, cuIs c.f0 c.f1 d = false := fun d hd => hno d (by rw [← hAB]; exact List.mem_append_left _ hd)
    have hB0 : ∀ d ∈ B, cuIs c.f0 c.f1 d = false := fun d hd => hno d (by rw [← hAB]; exact List.mem_append_right _ hd)
    have hml : (A ++ [c] ++ B).length = l.length + 1 := by rw [← hAB]; simp; omega
    have hmz : szN (A ++ [c] ++ B) := fun d hd => by
      simp only [List.mem_append, List.mem_singleton] at hd
      rcases hd with (hd | hd) | hd
      · exact hz d (by rw [← hAB]; exact List.mem_append_left _ hd)
      · rw [hd]; exact hc
      · exact hz d (by rw [← hAB]; exact List.mem_append_right _ hd)
    have hmll : (A ++ [c] ++ B).length < 1099511627776 := by omega
    have hrem : pRemove (A ++ [c] ++ B) c.f0 c.f1 = (l, true) := by
      have hf : (A ++ [c] ++ B).filter (fun d => !cuIs c.f0 c.f1 d) = l := by
        have fA : A.filter (fun d => !cuIs c.f0 c.f1 d) = A := List.filter_eq_self.2 (fun d hd => by rw [hA0 d hd]; rfl)
        have fB : B.filter (fun d => !cuIs c.f0 c.f1 d) = B := List.filter_eq_self.2 (fun d hd => by rw [hB0 d hd]; rfl)
        rw [List.filter_append, List.filter_append, fA, fB, List.filter_cons_of_neg (by rw [hcc]; decide), List.filter_nil, List.append_nil, hAB]
      unfold pRemove
      rw [if_pos hs, hf, if_neg (by omega)]
    have tail : Ev (fun k => (impl_RemoveCue.f k (A ++ [c] ++ B) c.f0 c.f1).bind fun bt395 => ((impl_IsScore.f k (A ++ [c] ++ B)).bind fun t399 => (if t399 = true then (if (1 : Int) = 1 then (if bt395.2 = true then ((laws_cues.f k bt395.1 l).bind fun t400 => (some t400)) else (some false)) else (some false)) else (some false)))) true := by
      refine Ev.bind (impl_RemoveCue_ev _ _ _ hmll hmz) ?_
      rw [hrem]
      refine Ev.bind (impl_IsScore_ev _ hmll hmz) ?_
      simp only [hs, if_true]
      exact Ev.bind (laws_cues_rfl l hll) (Ev.now _)
    -- the loop that counts
    have loop : ∀ (suf pre : List Cu) (n : Int), A ++ [c] ++ B = pre ++ suf → 0 ≤ n → n ≤ 1000 → n + ((suf.filter (fun d => cuIs c.f0 c.f1 d)).length : Int) = 1 →
        Ev (fun k => laws_FnCues.l0 k l (A ++ [c] ++ B) n (pre.length : Int) c.f0 c.f1 c.f2 c.f3) true := by
      intro suf
      induction suf with
      | nil =>
        intro pre n h0 hn0 hn1 hn
        refine ev_succ ?_
        have hn' : n = 1 := by simpa using hn
        subst hn'
        simp only [laws_FnCues.l0, if_neg (ixn h0)]
        exact tail
      | cons a s ih =>
        intro pre n h0 hn0 hn1 hn
        obtain ⟨h1, h2, h3, h4⟩ := ix h0 (by omega)
        refine ev_succ ?_
        simp only [laws_FnCues.l0, if_pos h1, if_pos (nn _), Int.toNat_natCast, rd_T42, h2]
        rw [h3]
        have ham : a ∈ A ++ [c] ++ B := by rw [h0]; simp
        by_cases hk : cuIs c.f0 c.f1 a = true
        · have hac : a = c := by
            simp only [List.mem_append, List.mem_singleton] at ham
            rcases ham with (hd | hd) | hd
            · rw [hA0 a hd] at hk; cases hk
            · exact hd
            · rw [hB0 a hd] at hk; cases hk
          have h9 : ((a :: s).filter (fun d => cuIs c.f0 c.f1 d)).length = (s.filter (fun d => cuIs c.f0 c.f1 d)).length + 1 := by rw [List.filter_cons_of_pos hk, List.length_cons]
          rw [h9] at hn
          have q : ∀ o : Nat, n + ((o + 1 : Nat) : Int) = 1 → (0 : Int) ≤ n + 1 ∧ n + 1 ≤ 1000 ∧ n + 1 + (o : Int) = 1 := fun o ho => by omega
          obtain ⟨q0, q2, q1⟩ := q _ hn
          have hi := ih (pre ++ [a]) (n + 1) h4 q0 q2 q1
          rw [hac]
          simp only [beq_self_eq_true, Bool.and_self, if_true]
          rw [show wrap64 (n + 1) = n + 1 by unfold wrap64; omega]
          rw [hac] at hi
          exact hi
        · rw [List.filter_cons_of_neg hk] at hn
          have hi := ih (pre ++ [a]) n h4 hn0 hn1 hn
          have hf : ¬ ((a.f0 == c.f0) && ((a.f1.toList == c.f1.toList) && ((a.f2 == c.f2) && (a.f3 == c.f3)))) = true := by
            intro hx
            simp only [Bool.and_eq_true] at hx
            exact hk (by simp only [cuIs, Bool.and_eq_true]; exact ⟨hx.1, hx.2.1⟩)
          simp only [if_neg hf]
          exact hi
    refine loop _ [] 0 rfl (by omega) (by omega) ?_
    have gA : A.filter (fun d => cuIs c.f0 c.f1 d) = [] := List.filter_eq_nil_iff.2 (fun d hd => by rw [hA0 d hd]; decide)
    have gB : B.filter (fun d => cuIs c.f0 c.f1 d) = [] := List.filter_eq_nil_iff.2 (fun d hd => by rw [hB0 d hd]; decide)
    show (0 : Int) + (((A ++ [c] ++ B).filter (fun d => cuIs c.f0 c.f1 d)).length : Int) = 1
    rw [List.filter_append, List.filter_append, gA, gB, List.filter_cons_of_pos hcc]
    rfl
  · rw [if_neg hp] at hadd
    rw [hadd]
    simp only [Bool.false_eq_true, if_false]
    exact Ev.bind (laws_cues_rfl l hll) (Ev.now _)

end Go.Proofs.Ytkljnmojnkiafaa.Pure
