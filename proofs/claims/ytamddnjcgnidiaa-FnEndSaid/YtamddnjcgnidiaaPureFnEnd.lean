/- The law FnEnd comes to true for every input: from the end of a score on, no level changes. (P7) No condition beside the statement's own. -/
import Derived.Test.YtamddnjcgnidiaaStFnEnd
namespace Go.Proofs.Ytamddnjcgnidiaa.Pure
open Go Go.RowKit Go.Proofs.Ytamddnjcgnidiaa.MFnEnd Go.Proofs.YtamddnjcgnidiaaW.PrintWords Go.Proofs.YtamddnjcgnidiaaW.PrintLast Go.Proofs.YtamddnjcgnidiaaW.PrintMore
set_option linter.unusedVariables false
set_option linter.unusedSimpArgs false

theorem ev_succ {α : Type} {g : Nat → Option α} {r : α} (h : Ev (fun k => g (k + 1)) r) : Ev g r := Ev.step (fun _ => rfl) h
theorem ev_ite {α : Type} {c : Prop} [Decidable c] {f g : Nat → Option α} {r : α} (h : c → Ev f r) (h' : ¬ c → Ev g r) : Ev (fun k => if c then f k else g k) r := by
  by_cases hc : c
  · simp only [if_pos hc]; exact h hc
  · simp only [if_neg hc]; exact h' hc
theorem ix {α : Type} {l pre t : List α} {a : α} (h : l = pre ++ a :: t) (hl : l.length < 4611686018427387904) :
    (pre.length : Int) < (l.length : Int) ∧ (∀ d, l.getD pre.length d = a) ∧ wrap64 ((pre.length : Int) + 1) = ((pre ++ [a]).length : Int) ∧ l = (pre ++ [a]) ++ t := by
  subst h
  simp only [List.length_append, List.length_cons, List.length_nil] at *
  refine ⟨by omega, fun d => by simp [List.getD], by unfold wrap64; omega, by simp⟩
theorem ixn {α : Type} {l pre : List α} (h : l = pre ++ []) : ¬ (pre.length : Int) < (l.length : Int) := by
  subst h; simp
theorem nn (n : Nat) : (0 : Int) ≤ (n : Int) := Int.natCast_nonneg n
theorem w64 {n : Int} (h0 : -9223372036854775808 ≤ n) (h1 : n < 9223372036854775808) : wrap64 n = n := by unfold wrap64; omega
theorem mn_min (a b : Int) : mn a b = min a b := by unfold mn; omega
theorem mx_max (a b : Int) : mx a b = max a b := by unfold mx; omega
theorem set_app {α : Type} (pre t : List α) (a b : α) : (pre ++ a :: t).set pre.length b = pre ++ b :: t := by simp
theorem app1 {α : Type} (pre : List α) (a : α) (t : List α) : pre ++ a :: t = (pre ++ [a]) ++ t := by simp

/-- The numbers from c on, n of them. -/
def upto : Nat → Int → List Int
  | 0, _ => []
  | n + 1, c => c :: upto n (c + 1)
theorem upto_length : ∀ n c, (upto n c).length = n
  | 0, _ => rfl
  | n + 1, c => by simp [upto, upto_length n]

theorem spec_l1In_eq (a b c : Int) : spec_l1In.f a b c = some (decide (b ≤ a) && decide (a ≤ c)) := by
  unfold spec_l1In.f; split <;> simp <;> omega
theorem impl_isWithin_eq (a b c : Int) : impl_isWithin.f a b c = some (decide (b ≤ a) && decide (a ≤ c)) := by
  unfold impl_isWithin.f; split <;> simp <;> omega
theorem and255 (x : Int) : 0 ≤ Go.bits .and .i64 x 255 ∧ Go.bits .and .i64 x 255 ≤ 255 := by
  have h : ((BitVec.ofInt 64 x) &&& (BitVec.ofInt 64 255)).toNat ≤ 255 := by
    rw [BitVec.toNat_and]
    refine Nat.le_trans Nat.and_le_right ?_
    decide
  have e : Go.bits .and .i64 x 255 = IntKind.i64.wrap (((BitVec.ofInt 64 x) &&& (BitVec.ofInt 64 255)).toNat : Int) := by
    rfl
  rw [e]
  generalize ((BitVec.ofInt 64 x) &&& (BitVec.ofInt 64 255)).toNat = m at h
  rw [IntKind.wrap_i64]; omega
theorem l1Byte_ok (b : List Int) (i h : Int) (hb : b.length < 1099511627776) (hi : 0 ≤ i) : ∃ r i' h', spec_l1Byte.f b i h = some (r, i', h') ∧ 0 ≤ i' ∧ 0 ≤ r ∧ r ≤ 255 := by
  unfold spec_l1Byte.f
  split
  · exact ⟨_, _, _, rfl, by unfold wrap64; omega, and255 _⟩
  · exact ⟨_, _, _, rfl, hi, and255 _⟩
theorem l1Below_ok (b : List Int) (i h n : Int) (hb : b.length < 1099511627776) (hi : 0 ≤ i) : ∃ r i' h', spec_l1Below.f b i h n = some (r, i', h') ∧ 0 ≤ i' ∧ 0 ≤ r ∧ (r < n ∨ n ≤ 0 ∧ r = 0) := by
  unfold spec_l1Below.f
  split
  · exact ⟨_, _, _, rfl, hi, by omega, by omega⟩
  · rename_i hn
    split
    · obtain ⟨r, i', h', e, hi', h0, h1⟩ := l1Byte_ok b i h hb hi
      rw [e]; simp only [Option.bind_some]
      rw [if_neg (by omega)]
      exact ⟨_, _, _, rfl, hi', Int.tmod_nonneg _ h0, .inl (Int.tmod_lt_of_pos _ (by omega))⟩
    · obtain ⟨r, i1, h1, e, hi1, h0, h255⟩ := l1Byte_ok b i h hb hi
      rw [e]; simp only [Option.bind_some]
      obtain ⟨r2, i2, h2, e2, hi2, h02, h2552⟩ := l1Byte_ok b i1 h1 hb hi1
      rw [e2]; simp only [Option.bind_some]
      obtain ⟨r3, i3, h3, e3, hi3, h03, h2553⟩ := l1Byte_ok b i2 h2 hb hi2
      rw [e3]; simp only [Option.bind_some]
      rw [if_neg (by omega)]
      refine ⟨_, _, _, rfl, hi3, Int.tmod_nonneg _ ?_, .inl (Int.tmod_lt_of_pos _ (by omega))⟩
      unfold wrap64; omega
theorem l1Int_ok (b : List Int) (i h : Int) (l : List Int) (hb : b.length < 1099511627776) (hi : 0 ≤ i) (hl : l ≠ []) : ∃ r i' h', spec_l1Int.f b i h l = some (r, i', h') ∧ 0 ≤ i' ∧ r ∈ l := by
  obtain ⟨r, i', h', e, hi', h0, h1⟩ := l1Below_ok b i h (l.length : Int) hb hi
  have hp : 0 < l.length := List.length_pos_iff.2 hl
  unfold spec_l1Int.f
  rw [e]; simp only [Option.bind_some]
  have hlt : r < (l.length : Int) := by omega
  rw [if_pos h0, if_pos hlt]
  refine ⟨_, _, _, rfl, hi', ?_⟩
  have h2 : r.toNat < l.length := by omega
  simp only [rd, List.getD_eq_getElem?_getD, List.getElem?_eq_getElem h2, Option.getD_some]
  exact List.getElem_mem _
theorem l1New_l0 (b : List Int) (hb : b.length < 1099511627776) : ∀ (d i : Nat) (h : Int), i + d = b.length → ∃ h', Ev (fun k => spec_l1New.l0 k b h (i : Int)) (b, 0, h') := by
  intro d
  induction d with
  | zero =>
    intro i h hd
    refine ⟨h, ev_succ ?_⟩
    simp only [spec_l1New.l0, if_neg (show ¬ ((i : Int) < (b.length : Int)) by omega)]
    exact Ev.now _
  | succ d ih =>
    intro i h hd
    by_cases h4 : (i : Int) < 4000
    · obtain ⟨h', e⟩ := ih (i + 1) _ (by omega)
      refine ⟨h', ev_succ ?_⟩
      simp only [spec_l1New.l0, if_pos (show ((i : Int) < (b.length : Int)) by omega), if_pos h4, if_pos (nn _)]
      rw [show wrap64 ((i : Int) + 1) = ((i + 1 : Nat) : Int) by unfold wrap64; omega]
      exact e
    · refine ⟨h, ev_succ ?_⟩
      simp only [spec_l1New.l0, if_pos (show ((i : Int) < (b.length : Int)) by omega), if_neg h4]
      exact Ev.now _
theorem l1New_ev (b : List Int) (hb : b.length < 1099511627776) : ∃ h', Ev (fun k => spec_l1New.f k b) (b, 0, h') := l1New_l0 b hb b.length 0 _ (by omega)
theorem laws_big_eq (b : List Int) : laws_big.f b = some (decide ((b.length : Int) > 4096)) := rfl
theorem ix2 {α : Type} {l pre t : List α} {p a : α} (h : l = (pre ++ [p]) ++ a :: t) (hl : l.length < 4611686018427387904) :
    (((pre ++ [p]).length : Int)) > 0 ∧ wrap64 (((pre ++ [p]).length : Int) - 1) = (pre.length : Int) ∧ (∀ d, l.getD pre.length d = p) ∧ (pre.length : Int) < (l.length : Int) := by
  subst h
  simp only [List.length_append, List.length_cons, List.length_nil] at *
  refine ⟨by omega, by unfold wrap64; omega, fun d => by simp [List.getD], by omega⟩
theorem ev_eq {α : Type} {f g : Nat → Option α} {r : α} (h : f = g) (k : Ev g r) : Ev f r := h ▸ k
def pCmpI (a b : Int) : Int := if a < b then -1 else if a = b then 0 else 1
theorem cmp_Compare_int_eq (a b : Int) : cmp_Compare_int.f a b = some (pCmpI a b) := by
  simp only [cmp_Compare_int.f, cmp_isNaN_int.f, bne_self_eq_false, Option.bind_some, Bool.false_eq_true, if_false, pCmpI]
  repeat' split
  all_goals first | rfl | omega
theorem cmp_Or_int_ev (a b : Int) : Ev (fun k => cmp_Or_int.f k [a, b]) (if a = 0 then b else a) := by
  unfold cmp_Or_int.f
  refine ev_succ ?_
  simp only [cmp_Or_int.l0, List.length_cons, List.length_nil, if_pos (show ((0 : Int) < ((0 + 1 + 1 : Nat) : Int)) by omega), if_pos (show (0 : Int) ≤ 0 by omega), rd, Int.toNat_zero, List.getD_cons_zero]
  refine ev_ite (fun h => ?_) (fun h => ?_)
  · rw [if_pos h, show wrap64 (0 + 1) = 1 by unfold wrap64; omega]
    refine ev_succ ?_
    simp only [cmp_Or_int.l0, List.length_cons, List.length_nil, if_pos (show ((1 : Int) < ((0 + 1 + 1 : Nat) : Int)) by omega), if_pos (show (0 : Int) ≤ 1 by omega), rd, show ((1 : Int).toNat) = 1 from rfl, List.getD_cons_succ, List.getD_cons_zero]
    refine ev_ite (fun h2 => ?_) (fun h2 => Ev.now _)
    rw [show wrap64 (1 + 1) = 2 by unfold wrap64; omega, h2]
    refine ev_succ ?_
    simp only [cmp_Or_int.l0, List.length_cons, List.length_nil, if_neg (show ¬ ((2 : Int) < ((0 + 1 + 1 : Nat) : Int)) by omega)]
    exact Ev.now _
  · rw [if_neg h]; exact Ev.now _
def pMeas' (x : Int) : Bool := decide (-4096 ≤ x) && decide (x ≤ 4096)
theorem impl_IsMeasure_eq (x : Int) : impl_IsMeasure.f x = some (pMeas' x) := by
  simp only [impl_IsMeasure.f, impl_isWithin_eq, Option.bind_some, pMeas']
theorem spec_l1Max_eq (a b : Int) : spec_l1Max.f a b = some (max a b) := by
  unfold spec_l1Max.f; split <;> simp <;> omega
abbrev Cu := S26
def nmC (b : Int) (i : Nat) : Bool := (decide (97 ≤ b) && decide (b ≤ 122)) || ((decide (48 ≤ b) && decide (b ≤ 57)) && !decide (i = 0))
def nmR (a : ByteArray) : Nat → Nat → Bool
  | 0, _ => decide (1 ≤ (a.size : Int)) && decide ((a.size : Int) ≤ 8)
  | d + 1, i => nmC (bt a (i : Int)) i && nmR a d (i + 1)
def pName (a : ByteArray) : Bool := nmR a a.size 0
theorem spec_IsName_l0 (a : ByteArray) (ha : a.size ≤ 9223372036854775807) : ∀ (d i : Nat), i + d = a.size → Ev (fun k => spec_IsName.l0 k a (i : Int)) (nmR a d i) := by
  intro d
  induction d with
  | zero =>
    intro i h
    refine ev_succ ?_
    simp only [spec_IsName.l0, if_neg (show ¬ ((i : Int) < (a.size : Int)) by omega), nmR]
    refine ev_ite (fun c => ?_) (fun c => ?_)
    · rw [decide_eq_true (show 1 ≤ (a.size : Int) by omega), Bool.true_and]; exact Ev.now _
    · rw [decide_eq_false (show ¬ 1 ≤ (a.size : Int) by omega), Bool.false_and]; exact Ev.now _
  | succ d ih =>
    intro i h
    have ih' := ih (i + 1) (by omega)
    refine ev_succ ?_
    simp only [spec_IsName.l0, if_pos (show ((i : Int) < (a.size : Int)) by omega), if_pos (nn _), nmR]
    rw [show wrap64 ((i : Int) + 1) = ((i + 1 : Nat) : Int) by unfold wrap64; omega]
    generalize bt a (i : Int) = b
    have hi : ((i : Int) = 0) = (i = 0) := by simp
    simp only [nmC, hi]
    by_cases h1 : 97 ≤ b <;> by_cases h2 : b ≤ 122 <;> by_cases h3 : 48 ≤ b <;> by_cases h4 : b ≤ 57 <;> by_cases h5 : i = 0 <;> first | (exfalso; omega) | skip
    all_goals simp only [ge_iff_le, h1, h2, h3, h4, h5, decide_true, decide_false, Bool.true_and, Bool.false_and, Bool.and_true, Bool.and_false, Bool.or_true, Bool.true_or, Bool.or_false, Bool.false_or, Bool.not_true, Bool.not_false, if_true, if_false]
    all_goals first | exact Ev.now _ | exact ih' | (subst h5; exact ih')
theorem spec_IsName_ev (a : ByteArray) (ha : a.size ≤ 9223372036854775807) : Ev (fun k => spec_IsName.f k a) (pName a) := spec_IsName_l0 a ha a.size 0 (by omega)
theorem impl_IsName_l0 (a : ByteArray) (ha : a.size ≤ 9223372036854775807) : ∀ (d i : Nat), i + d = a.size → Ev (fun k => impl_IsName.l0 k a (a.size : Int) (i : Int)) (nmR a d i) := by
  intro d
  induction d with
  | zero =>
    intro i h
    refine ev_succ ?_
    simp only [impl_IsName.l0, if_neg (show ¬ ((i : Int) < (a.size : Int)) by omega), nmR, impl_isWithin_eq, Option.bind_some]
    exact Ev.now _
  | succ d ih =>
    intro i h
    have ih' := ih (i + 1) (by omega)
    refine ev_succ ?_
    simp only [impl_IsName.l0, if_pos (show ((i : Int) < (a.size : Int)) by omega), if_pos (nn _), nmR]
    rw [show wrap64 ((i : Int) + 1) = ((i + 1 : Nat) : Int) by unfold wrap64; omega]
    generalize bt a (i : Int) = b
    have hi : ((i : Int) = 0) = (i = 0) := by simp
    simp only [nmC, hi, gt_iff_lt, ← Int.not_le]
    by_cases h1 : 97 ≤ b <;> by_cases h2 : b ≤ 122 <;> by_cases h3 : 48 ≤ b <;> by_cases h4 : b ≤ 57 <;> by_cases h5 : i = 0 <;> first | (exfalso; omega) | skip
    all_goals simp only [ge_iff_le, h1, h2, h3, h4, h5, not_true_eq_false, not_false_eq_true, decide_true, decide_false, Bool.true_and, Bool.false_and, Bool.and_true, Bool.and_false, Bool.or_true, Bool.true_or, Bool.or_false, Bool.false_or, Bool.not_true, Bool.not_false, if_true, if_false]
    all_goals first | exact Ev.now _ | exact ih' | (subst h5; exact ih')
theorem impl_IsName_ev (a : ByteArray) (ha : a.size ≤ 9223372036854775807) : Ev (fun k => impl_IsName.f k a) (pName a) := impl_IsName_l0 a ha a.size 0 (by omega)
def pCue (t : Int) (n : ByteArray) (v r : Int) : Bool := (decide (0 ≤ t) && decide (t ≤ 64)) && (pName n && ((decide (0 ≤ v) && decide (v ≤ 32)) && (decide (0 ≤ r) && decide (r ≤ 16))))
theorem spec_IsCue_ev (t : Int) (n : ByteArray) (v r : Int) (hn : n.size ≤ 9223372036854775807) : Ev (fun k => spec_IsCue.f k t n v r) (pCue t n v r) := by
  simp only [spec_IsCue.f, spec_l1In_eq, Option.bind_some, pCue]
  refine ev_ite (fun c => ?_) (fun c => ?_)
  · rw [c, Bool.true_and]
    refine Ev.bind (spec_IsName_ev n hn) ?_
    refine ev_ite (fun c => ?_) (fun c => ?_)
    · rw [c, Bool.true_and]
      refine ev_ite (fun c => ?_) (fun c => ?_)
      · rw [c, Bool.true_and]; exact Ev.now _
      · rw [Bool.eq_false_iff.2 c, Bool.false_and]; exact Ev.now _
    · rw [Bool.eq_false_iff.2 c, Bool.false_and]; exact Ev.now _
  · rw [Bool.eq_false_iff.2 c, Bool.false_and]; exact Ev.now _
theorem impl_IsCue_ev (t : Int) (n : ByteArray) (v r : Int) (hn : n.size ≤ 9223372036854775807) : Ev (fun k => impl_IsCue.f k t n v r) (pCue t n v r) := by
  simp only [impl_IsCue.f, impl_isWithin_eq, Option.bind_some, pCue]
  refine ev_ite (fun c => ?_) (fun c => ?_)
  · rw [c, Bool.true_and]
    refine Ev.bind (impl_IsName_ev n hn) ?_
    refine ev_ite (fun c => ?_) (fun c => ?_)
    · rw [c, Bool.true_and]
      refine ev_ite (fun c => ?_) (fun c => ?_)
      · rw [c, Bool.true_and]; exact Ev.now _
      · rw [Bool.eq_false_iff.2 c, Bool.false_and]; exact Ev.now _
    · rw [Bool.eq_false_iff.2 c, Bool.false_and]; exact Ev.now _
  · rw [Bool.eq_false_iff.2 c, Bool.false_and]; exact Ev.now _
theorem bl_irrefl : ∀ x, Op.bytesLess x x = false
  | [] => rfl
  | a :: x => by
    simp only [Op.bytesLess, bl_irrefl x, Bool.and_false, Bool.or_false, decide_eq_false_iff_not]
    exact UInt8.lt_irrefl a
theorem bl_tri : ∀ x y, Op.bytesLess x y = false → Op.bytesLess y x = false → x = y
  | [], [], _, _ => rfl
  | [], _ :: _, h, _ => by simp [Op.bytesLess] at h
  | _ :: _, [], _, h => by simp [Op.bytesLess] at h
  | a :: x, b :: y, h, h' => by
    simp only [Op.bytesLess, Bool.or_eq_false_iff, decide_eq_false_iff_not] at h h'
    have hab : a = b := by
      have h1 := h.1; have h2 := h'.1
      exact UInt8.le_antisymm (UInt8.not_lt.1 h2) (UInt8.not_lt.1 h1)
    subst hab
    simp only [beq_self_eq_true, Bool.true_and] at h h'
    rw [bl_tri x y h.2 h'.2]
theorem bl_trans : ∀ x y z, Op.bytesLess x y = true → Op.bytesLess y z = true → Op.bytesLess x z = true
  | _, _, [], _, h => by cases ‹List UInt8› <;> simp [Op.bytesLess] at h
  | [], _, _ :: _, _, _ => rfl
  | _ :: _, [], _ :: _, h, _ => by simp [Op.bytesLess] at h
  | a :: x, b :: y, c :: z, h, h' => by
    simp only [Op.bytesLess, Bool.or_eq_true, decide_eq_true_eq, Bool.and_eq_true, beq_iff_eq] at h h' ⊢
    rcases h with h | ⟨h, h2⟩
    · rcases h' with h' | ⟨h', h2'⟩
      · exact .inl (UInt8.lt_trans h h')
      · exact .inl (h' ▸ h)
    · rcases h' with h' | ⟨h', h2'⟩
      · exact .inl (h ▸ h')
      · exact .inr ⟨h.trans h', bl_trans x y z h2 h2'⟩
/-- The order of cues. -/
def pCmpC (a : Int) (b : ByteArray) (c : Int) (d : ByteArray) : Int :=
  if a < c then -1 else if a = c then (if Op.bytesLess b.toList d.toList = true then -1 else if b.toList = d.toList then 0 else 1) else 1
theorem spec_CompareCues_ev (a : Int) (b : ByteArray) (v r c : Int) (d : ByteArray) (v' r' : Int) : Ev (fun k => spec_CompareCues.f k a b v r c d v' r') (pCmpC a b c d) := by
  unfold spec_CompareCues.f pCmpC
  refine ev_ite (fun h => ?_) (fun h => ?_)
  · rw [if_pos h, decide_eq_true h]
    refine ev_succ ?_
    simp only [spec_CompareCues.j0, if_true]; exact Ev.now _
  · rw [if_neg h]
    refine ev_ite (fun h1 => ?_) (fun h1 => ?_)
    · rw [if_pos h1]
      refine ev_succ ?_
      simp only [spec_CompareCues.j0]
      refine ev_ite (fun h2 => ?_) (fun h2 => ?_)
      · rw [if_pos h2]; exact Ev.now _
      · rw [if_neg h2]
        simp only [if_pos h1]
        refine ev_ite (fun h3 => ?_) (fun h3 => ?_)
        · rw [if_pos h3]; exact Ev.now _
        · rw [if_neg h3]; exact Ev.now _
    · rw [if_neg h1]
      refine ev_succ ?_
      simp only [spec_CompareCues.j0, Bool.false_eq_true, if_false, if_neg h1]; exact Ev.now _
def pCmpS (a b : ByteArray) : Int := if Op.bytesLess a.toList b.toList = true then -1 else if a.toList = b.toList then 0 else 1
theorem cmp_Compare_string_eq (a b : ByteArray) : cmp_Compare_string.f a b = some (pCmpS a b) := by
  simp only [cmp_Compare_string.f, cmp_isNaN_string.f, bne_self_eq_false, Option.bind_some, Bool.false_eq_true, if_false, pCmpS]
  split
  · rfl
  · rename_i h
    split
    · rename_i h2
      rw [if_neg]
      intro e
      rw [e, bl_irrefl] at h2
      cases h2
    · rename_i h2
      rw [if_pos (bl_tri _ _ (Bool.eq_false_iff.2 h) (Bool.eq_false_iff.2 h2))]
theorem impl_CompareCues_ev (a : Int) (b : ByteArray) (v r c : Int) (d : ByteArray) (v' r' : Int) : Ev (fun k => impl_CompareCues.f k a b v r c d v' r') (pCmpC a b c d) := by
  simp only [impl_CompareCues.f, cmp_Compare_int_eq, cmp_Compare_string_eq, Option.bind_some]
  have := cmp_Or_int_ev (pCmpI a c) (pCmpS b d)
  have e : (if pCmpI a c = 0 then pCmpS b d else pCmpI a c) = pCmpC a b c d := by
    unfold pCmpI pCmpC pCmpS
    by_cases h1 : a < c
    · simp [h1]
    · by_cases h2 : a = c
      · simp [h2]
      · simp [h1, h2]
  rw [e] at this
  exact Ev.bind this (Ev.now _)
/-- Every name of a list is a string that Go can hold. -/
def szN (l : List Cu) : Prop := ∀ c ∈ l, c.f1.size ≤ 9223372036854775807
def cOk (c : Cu) : Bool := pCue c.f0 c.f1 c.f2 c.f3
def cLt (a b : Cu) : Bool := decide (pCmpC a.f0 a.f1 b.f0 b.f1 < 0)
def sRest : Cu → List Cu → Bool
  | _, [] => true
  | p, q :: t => cOk q && (cLt p q && sRest q t)
def sAll : List Cu → Bool
  | [] => true
  | q :: t => cOk q && sRest q t
/-- IsScore -/
def pScore (l : List Cu) : Bool := sAll l && decide ((l.length : Int) ≤ 12)
theorem pScore_len {l : List Cu} (h : pScore l = true) : l.length ≤ 12 := by
  simp only [pScore, Bool.and_eq_true, decide_eq_true_eq] at h; omega
theorem szN_mid {l pre t : List Cu} {a : Cu} (h : szN l) (e : l = pre ++ a :: t) : a.f1.size ≤ 9223372036854775807 := h a (by simp [e])
theorem sRest_all : ∀ (l : List Cu) (p : Cu), sRest p l = true → ∀ c ∈ l, cOk c = true
  | [], _, _, c, hc => by cases hc
  | q :: t, p, h, c, hc => by
    simp only [sRest, Bool.and_eq_true] at h
    cases hc with
    | head => exact h.1
    | tail _ hc => exact sRest_all t q h.2.2 c hc
theorem sAll_all : ∀ (l : List Cu), sAll l = true → ∀ c ∈ l, cOk c = true
  | [], _, c, hc => by cases hc
  | q :: t, h, c, hc => by
    simp only [sAll, Bool.and_eq_true] at h
    cases hc with
    | head => exact h.1
    | tail _ hc => exact sRest_all t q h.2 c hc
theorem pScore_all {l : List Cu} (h : pScore l = true) : ∀ c ∈ l, cOk c = true := by
  simp only [pScore, Bool.and_eq_true] at h; exact sAll_all l h.1
theorem cLt_iff (a b : Cu) : cLt a b = true ↔ a.f0 < b.f0 ∨ (a.f0 = b.f0 ∧ Op.bytesLess a.f1.toList b.f1.toList = true) := by
  unfold cLt
  rw [decide_eq_true_iff]
  unfold pCmpC
  by_cases h1 : a.f0 < b.f0
  · simp [h1]
  · by_cases h2 : a.f0 = b.f0
    · rw [if_neg h1, if_pos h2]
      by_cases h3 : Op.bytesLess a.f1.toList b.f1.toList = true
      · simp [h2, h3]
      · rw [if_neg h3]
        split <;> simp [h1, h2, h3]
    · simp [h1, h2]
theorem cLt_trans {a b c : Cu} (h : cLt a b = true) (h' : cLt b c = true) : cLt a c = true := by
  rw [cLt_iff] at *
  rcases h with h | ⟨h, h2⟩
  · rcases h' with h' | ⟨h', _⟩ <;> exact .inl (by omega)
  · rcases h' with h' | ⟨h', h2'⟩
    · exact .inl (by omega)
    · exact .inr ⟨by omega, bl_trans _ _ _ h2 h2'⟩
theorem sRest_iff : ∀ (l : List Cu) (p : Cu), sRest p l = true ↔ (∀ c ∈ l, cOk c = true) ∧ (∀ c ∈ l, cLt p c = true) ∧ l.Pairwise (fun a b => cLt a b = true)
  | [], _ => by simp [sRest]
  | q :: t, p => by
    simp only [sRest, Bool.and_eq_true, sRest_iff t q, List.mem_cons, List.pairwise_cons, forall_eq_or_imp]
    constructor
    · rintro ⟨h1, h2, h3, h4, h5⟩
      exact ⟨⟨h1, h3⟩, ⟨h2, fun c hc => cLt_trans h2 (h4 c hc)⟩, h4, h5⟩
    · rintro ⟨⟨h1, h3⟩, ⟨h2, _⟩, h4, h5⟩
      exact ⟨h1, h2, h3, h4, h5⟩
theorem sAll_iff (l : List Cu) : sAll l = true ↔ (∀ c ∈ l, cOk c = true) ∧ l.Pairwise (fun a b => cLt a b = true) := by
  cases l with
  | nil => simp [sAll]
  | cons q t =>
    simp only [sAll, Bool.and_eq_true, sRest_iff, List.mem_cons, List.pairwise_cons, forall_eq_or_imp]
    constructor
    · rintro ⟨h1, h2, h3, h4⟩; exact ⟨⟨h1, h2⟩, h3, h4⟩
    · rintro ⟨⟨h1, h2⟩, h3, h4⟩; exact ⟨h1, h2, h3, h4⟩
theorem pScore_iff (l : List Cu) : pScore l = true ↔ ((∀ c ∈ l, cOk c = true) ∧ l.Pairwise (fun a b => cLt a b = true)) ∧ l.length ≤ 12 := by
  simp only [pScore, Bool.and_eq_true, sAll_iff, decide_eq_true_eq]
  have : ((l.length : Int) ≤ 12) ↔ l.length ≤ 12 := by omega
  rw [this]
theorem pScore_filter {l : List Cu} (h : pScore l = true) (p : Cu → Bool) : pScore (l.filter p) = true := by
  rw [pScore_iff] at *
  exact ⟨⟨fun c hc => h.1.1 c ((List.mem_filter.1 hc).1), h.1.2.sublist List.filter_sublist⟩, Nat.le_trans (List.length_filter_le _ _) h.2⟩
theorem spec_IsScore_l0 (l : List Cu) (hl : l.length < 1099511627776) (hz : szN l) : ∀ (suf pre : List Cu) (p : Cu), l = (pre ++ [p]) ++ suf →
    Ev (fun k => spec_IsScore.l0 k l l (l.length : Int) ((pre ++ [p]).length : Int)) (sRest p suf && decide ((l.length : Int) ≤ 12)) := by
  intro suf
  induction suf with
  | nil =>
    intro pre p h
    refine ev_succ ?_
    simp only [spec_IsScore.l0, if_neg (ixn h), sRest, Bool.true_and]
    exact Ev.now _
  | cons a t ih =>
    intro pre p h
    obtain ⟨h1, h2, h3, h4⟩ := ix h (by omega)
    obtain ⟨h5, h6, h7, h8⟩ := ix2 h (by omega)
    refine ev_succ ?_
    simp only [spec_IsScore.l0, if_pos h1, if_pos (nn _), Int.toNat_natCast, rd_T26, h2, h3, h6, h7, if_pos h5, if_pos h8]
    rw [sRest]
    refine Ev.bind (spec_IsCue_ev _ _ _ _ (szN_mid hz h)) ?_
    change Ev (fun k => if cOk a = true then _ else _) _
    refine ev_ite (fun c1 => ?_) (fun c1 => ?_)
    · rw [c1, Bool.true_and]
      refine Ev.bind (spec_CompareCues_ev _ _ _ _ _ _ _ _) ?_
      rw [cLt]
      refine ev_ite (fun c3 => ?_) (fun c3 => ?_)
      · rw [decide_eq_false (by omega), Bool.false_and, Bool.false_and]; exact Ev.now _
      · rw [decide_eq_true (by omega), Bool.true_and]; exact ih (pre ++ [p]) a h4
    · rw [Bool.eq_false_iff.2 c1, Bool.false_and, Bool.false_and]; exact Ev.now _
theorem spec_IsScore_ev (l : List Cu) (hl : l.length < 1099511627776) (hz : szN l) : Ev (fun k => spec_IsScore.f k l) (pScore l) := by
  unfold spec_IsScore.f pScore
  refine ev_succ ?_
  cases l with
  | nil =>
    simp only [spec_IsScore.l0]
    exact Ev.now _
  | cons a t =>
    obtain ⟨h1, h2, h3, h4⟩ := ix (l := a :: t) (pre := []) rfl (by omega)
    simp only [List.length_nil, Int.natCast_zero] at h1 h2 h3
    simp only [spec_IsScore.l0, if_pos h1, if_pos (show (0 : Int) ≤ 0 by omega), Int.toNat_zero, rd_T26, h2, h3, if_neg (show ¬ ((0 : Int) > 0) by omega)]
    rw [sAll]
    refine Ev.bind (spec_IsCue_ev _ _ _ _ (szN_mid (pre := []) hz rfl)) ?_
    change Ev (fun k => if cOk a = true then _ else _) _
    refine ev_ite (fun c1 => ?_) (fun c1 => ?_)
    · rw [c1, Bool.true_and]
      exact spec_IsScore_l0 (a :: t) hl hz t [] a rfl
    · rw [Bool.eq_false_iff.2 c1, Bool.false_and, Bool.false_and]; exact Ev.now _
theorem impl_IsScore_l0 (l : List Cu) (hl : l.length < 1099511627776) (hz : szN l) : ∀ (suf pre : List Cu) (p : Cu), l = (pre ++ [p]) ++ suf →
    Ev (fun k => impl_IsScore.l0 k l l (l.length : Int) ((pre ++ [p]).length : Int)) (sRest p suf && decide ((l.length : Int) ≤ 12)) := by
  intro suf
  induction suf with
  | nil =>
    intro pre p h
    refine ev_succ ?_
    simp only [impl_IsScore.l0, if_neg (ixn h), sRest, Bool.true_and]
    exact Ev.now _
  | cons a t ih =>
    intro pre p h
    obtain ⟨h1, h2, h3, h4⟩ := ix h (by omega)
    obtain ⟨h5, h6, h7, h8⟩ := ix2 h (by omega)
    refine ev_succ ?_
    simp only [impl_IsScore.l0, if_pos h1, if_pos (nn _), Int.toNat_natCast, rd_T26, h2, h3, h6, h7, if_pos h5, if_pos h8]
    rw [sRest]
    refine Ev.bind (impl_IsCue_ev _ _ _ _ (szN_mid hz h)) ?_
    change Ev (fun k => if cOk a = true then _ else _) _
    refine ev_ite (fun c1 => ?_) (fun c1 => ?_)
    · rw [c1, Bool.true_and]
      refine Ev.bind (impl_CompareCues_ev _ _ _ _ _ _ _ _) ?_
      rw [cLt]
      refine ev_ite (fun c3 => ?_) (fun c3 => ?_)
      · rw [decide_eq_false (by omega), Bool.false_and, Bool.false_and]; exact Ev.now _
      · rw [decide_eq_true (by omega), Bool.true_and]; exact ih (pre ++ [p]) a h4
    · rw [Bool.eq_false_iff.2 c1, Bool.false_and, Bool.false_and]; exact Ev.now _
theorem impl_IsScore_ev (l : List Cu) (hl : l.length < 1099511627776) (hz : szN l) : Ev (fun k => impl_IsScore.f k l) (pScore l) := by
  unfold impl_IsScore.f pScore
  refine ev_succ ?_
  cases l with
  | nil =>
    simp only [impl_IsScore.l0]
    exact Ev.now _
  | cons a t =>
    obtain ⟨h1, h2, h3, h4⟩ := ix (l := a :: t) (pre := []) rfl (by omega)
    simp only [List.length_nil, Int.natCast_zero] at h1 h2 h3
    simp only [impl_IsScore.l0, if_pos h1, if_pos (show (0 : Int) ≤ 0 by omega), Int.toNat_zero, rd_T26, h2, h3, if_neg (show ¬ ((0 : Int) > 0) by omega)]
    rw [sAll]
    refine Ev.bind (impl_IsCue_ev _ _ _ _ (szN_mid (pre := []) hz rfl)) ?_
    change Ev (fun k => if cOk a = true then _ else _) _
    refine ev_ite (fun c1 => ?_) (fun c1 => ?_)
    · rw [c1, Bool.true_and]
      exact impl_IsScore_l0 (a :: t) hl hz t [] a rfl
    · rw [Bool.eq_false_iff.2 c1, Bool.false_and, Bool.false_and]; exact Ev.now _
def pFloor (a b : Int) : Int := if Int.tmod a b < 0 then wrap64 (wrap64 (Int.tdiv a b) - 1) else wrap64 (Int.tdiv a b)
def rMeas (x : Int) : Bool := decide (-4096 ≤ x) && decide (x ≤ 4096)
/-- RampAt -/
def pRamp (a b t d : Int) : Int := if (rMeas a && rMeas b) = true then (if d ≤ t then b else if t ≤ 0 then a else if 999 < d then a else wrap64 (a + pFloor (wrap64 (t * wrap64 (b - a))) d)) else 0
theorem impl_floorDiv_eq (a b : Int) (h : ¬ b = 0) : impl_floorDiv.f a b = some (pFloor a b) := by
  unfold impl_floorDiv.f pFloor; rw [if_neg h]; split <;> rfl
theorem impl_RampAt_ev (a b t d : Int) : Ev (fun k => impl_RampAt.f k a b t d) (pRamp a b t d) := by
  have j : ∀ c : Bool, Ev (fun k => impl_RampAt.j0 k a b t d c) (if c = true then 0 else (if d ≤ t then b else if t ≤ 0 then a else if 999 < d then a else wrap64 (a + pFloor (wrap64 (t * wrap64 (b - a))) d))) := by
    intro c
    refine ev_succ ?_
    simp only [impl_RampAt.j0]
    refine ev_ite (fun h => ?_) (fun h => ?_)
    · rw [if_pos h]; exact Ev.now _
    · rw [if_neg h]
      refine ev_ite (fun h1 => ?_) (fun h1 => ?_)
      · rw [if_pos h1]; exact Ev.now _
      · rw [if_neg h1]
        refine ev_ite (fun h2 => ?_) (fun h2 => ?_)
        · rw [if_pos h2]; exact Ev.now _
        · rw [if_neg h2]
          refine ev_ite (fun h3 => ?_) (fun h3 => ?_)
          · rw [if_pos h3]; exact Ev.now _
          · rw [if_neg h3]
            simp only [impl_floorDiv_eq _ d (show ¬ d = 0 by omega), Option.bind_some]
            exact Ev.now _
  simp only [impl_RampAt.f, impl_IsMeasure_eq, Option.bind_some, pRamp]
  change Ev (fun k => if rMeas a = true then impl_RampAt.j0 k a b t d (!rMeas b) else _) _
  refine ev_ite (fun h => ?_) (fun h => ?_)
  · rw [h, Bool.true_and]
    have := j (!rMeas b)
    cases hb : rMeas b <;> simpa [hb] using this
  · have := j true
    rw [Bool.eq_false_iff.2 h, Bool.false_and]; simpa using this
def pLevL (n : ByteArray) (t : Int) : Int → Int → Int → Int → List Cu → Int
  | v, t0, v1, r, [] => pRamp v v1 (wrap64 (t - t0)) r
  | v, t0, v1, r, c :: l => if c.f1.toList = n.toList then (if c.f0 ≤ t then pLevL n t (pRamp v v1 (wrap64 (c.f0 - t0)) r) c.f0 c.f2 c.f3 l else pLevL n t v t0 v1 r l) else pLevL n t v t0 v1 r l
/-- LevelAt -/
def pLevel (l : List Cu) (n : ByteArray) (t : Int) : Int := if pScore l = true then (if t < 0 then 0 else pLevL n t 0 0 0 0 l) else 0
theorem impl_LevelAt_l0 (l : List Cu) (n : ByteArray) (t : Int) (hl : l.length < 1099511627776) : ∀ (suf pre : List Cu) (v t0 : Int) (m : ByteArray) (v1 r : Int), l = pre ++ suf →
    Ev (fun k => impl_LevelAt.l0 k n t v l (l.length : Int) (pre.length : Int) t0 m v1 r) (pLevL n t v t0 v1 r suf) := by
  intro suf
  induction suf with
  | nil =>
    intro pre v t0 m v1 r h
    refine ev_succ ?_
    simp only [impl_LevelAt.l0, if_neg (ixn h), pLevL]
    exact Ev.bind (impl_RampAt_ev _ _ _ _) (Ev.now _)
  | cons a s ih =>
    intro pre v t0 m v1 r h
    obtain ⟨h1, h2, h3, h4⟩ := ix h (by omega)
    refine ev_succ ?_
    simp only [impl_LevelAt.l0, if_pos h1, if_pos (nn _), Int.toNat_natCast, rd_T26, h2, h3]
    rw [pLevL]
    refine ev_ite (fun c => ?_) (fun c => ?_)
    · rw [if_pos c]
      refine ev_ite (fun c => ?_) (fun c => ?_)
      · rw [if_pos c]
        exact Ev.bind (impl_RampAt_ev _ _ _ _) (ih _ _ _ _ _ _ h4)
      · rw [if_neg c]; exact ih _ _ _ _ _ _ h4
    · rw [if_neg c]; exact ih _ _ _ _ _ _ h4
theorem impl_LevelAt_ev (l : List Cu) (n : ByteArray) (t : Int) (hl : l.length < 1099511627776) (hz : szN l) : Ev (fun k => impl_LevelAt.f k l n t) (pLevel l n t) := by
  have j1 : Ev (fun k => impl_LevelAt.j0 k l n t true) 0 := by
    refine ev_succ ?_
    simp only [impl_LevelAt.j0, if_true]; exact Ev.now _
  unfold impl_LevelAt.f pLevel
  refine Ev.bind (impl_IsScore_ev l hl hz) ?_
  refine ev_ite (fun h => ?_) (fun h => ?_)
  · rw [if_pos h]
    by_cases h : t < 0
    · rw [if_pos h]; simpa only [decide_eq_true h] using j1
    · rw [if_neg h]
      refine ev_succ ?_
      simp only [impl_LevelAt.j0, decide_eq_false h, Bool.false_eq_true, if_false]
      exact impl_LevelAt_l0 l n t hl l [] 0 0 _ 0 0 rfl
  · rw [if_neg h]; exact j1
theorem spec_l7Copies_eq (l : List Cu) (hl : l.length < 1099511627776) : spec_l7Copies.f l = some l := by
  simp only [spec_l7Copies.f, Option.bind_some, List.length_nil, if_pos (show 0 + l.length < 3518437208883 by omega), List.nil_append]
def cCmp (a b : Cu) : Int := pCmpC a.f0 a.f1 b.f0 b.f1
theorem cCmp_cases (a b : Cu) : (cCmp a b < 0 ∧ cLt a b = true) ∨ (cCmp a b = 0 ∧ a.f0 = b.f0 ∧ a.f1.toList = b.f1.toList) ∨ (cCmp a b > 0 ∧ cLt b a = true) := by
  by_cases h : cLt a b = true
  · left; exact ⟨by simpa [cLt, cCmp] using h, h⟩
  · right
    have h' := h
    rw [cLt_iff] at h'
    unfold cCmp pCmpC
    rw [if_neg (fun c => h' (.inl c))]
    by_cases h2 : a.f0 = b.f0
    · rw [if_pos h2, if_neg (fun c => h' (.inr ⟨h2, c⟩))]
      by_cases h3 : a.f1.toList = b.f1.toList
      · left; rw [if_pos h3]; exact ⟨rfl, h2, h3⟩
      · right; rw [if_neg h3]
        refine ⟨by omega, ?_⟩
        rw [cLt_iff]
        refine .inr ⟨h2.symm, ?_⟩
        cases hb : Op.bytesLess b.f1.toList a.f1.toList
        · exact absurd (bl_tri _ _ (Bool.eq_false_iff.2 (fun c => h' (.inr ⟨h2, c⟩))) hb) h3
        · rfl
    · right; rw [if_neg h2]
      refine ⟨by omega, ?_⟩
      rw [cLt_iff]
      exact .inl (by have : ¬ a.f0 < b.f0 := fun c => h' (.inl c)
                     omega)
/-- Where a cue goes. -/
def putTail (c : Cu) : List Cu → Option (List Cu)
  | [] => some [c]
  | d :: t => if cCmp d c < 0 then (putTail c t).map (d :: ·) else if cCmp d c = 0 then none else some (c :: d :: t)
def pPut (l : List Cu) (c : Cu) : List Cu × Bool := match putTail c l with
  | none => (l, false)
  | some r => (r, true)
/-- AddCue -/
def pAdd (l : List Cu) (c : Cu) : List Cu × Bool := if (pScore l && cOk c) = true then (if (pPut l c).2 = true then (if (l.length : Int) = 12 then (l, false) else ((pPut l c).1, true)) else (l, false)) else (l, false)
theorem putTail_mem (c : Cu) : ∀ (l r : List Cu), putTail c l = some r → ∀ x ∈ r, x = c ∨ x ∈ l
  | [], r, h, x, hx => by cases h; simp at hx; exact .inl hx
  | d :: t, r, h, x, hx => by
    unfold putTail at h
    split at h
    · cases ht : putTail c t with
      | none => rw [ht] at h; cases h
      | some r' =>
        rw [ht] at h; cases h
        cases hx with
        | head => exact .inr (by simp)
        | tail _ hx => rcases putTail_mem c t r' ht x hx with h | h
                       · exact .inl h
                       · exact .inr (by simp [h])
    · split at h
      · cases h
      · cases h; simp at hx; rcases hx with h | h | h
        · exact .inl h
        · exact .inr (by simp [h])
        · exact .inr (by simp [h])
theorem putTail_length (c : Cu) : ∀ (l r : List Cu), putTail c l = some r → r.length = l.length + 1
  | [], r, h => by cases h; rfl
  | d :: t, r, h => by
    unfold putTail at h
    split at h
    · cases ht : putTail c t with
      | none => rw [ht] at h; cases h
      | some r' => rw [ht] at h; cases h; simp [putTail_length c t r' ht]
    · split at h
      · cases h
      · cases h; simp
theorem putTail_sorted (c : Cu) : ∀ (l r : List Cu), putTail c l = some r → l.Pairwise (fun a b => cLt a b = true) → r.Pairwise (fun a b => cLt a b = true)
  | [], r, h, _ => by cases h; simp
  | d :: t, r, h, hp => by
    rw [List.pairwise_cons] at hp
    unfold putTail at h
    split at h
    · rename_i hc
      cases ht : putTail c t with
      | none => rw [ht] at h; cases h
      | some r' =>
        rw [ht] at h; cases h
        rw [List.pairwise_cons]
        refine ⟨fun x hx => ?_, putTail_sorted c t r' ht hp.2⟩
        rcases putTail_mem c t r' ht x hx with h | h
        · rw [h]; rcases cCmp_cases d c with h | h | h
          · exact h.2
          · omega
          · omega
        · exact hp.1 x h
    · rename_i hc
      split at h
      · cases h
      · rename_i hc2
        cases h
        have hcd : cLt c d = true := by
          rcases cCmp_cases d c with h | h | h
          · omega
          · omega
          · exact h.2
        rw [List.pairwise_cons, List.pairwise_cons]
        refine ⟨fun x hx => ?_, hp⟩
        cases hx with
        | head => exact hcd
        | tail _ hx => exact cLt_trans hcd (hp.1 x hx)
theorem pAdd_score {l : List Cu} (h : pScore l = true) (c : Cu) : pScore (pAdd l c).1 = true := by
  unfold pAdd
  split
  · rename_i h1
    simp only [Bool.and_eq_true] at h1
    split
    · rename_i h2
      split
      · exact h
      · rename_i h3
        unfold pPut at h2 ⊢
        cases hp : putTail c l with
        | none => rw [hp] at h2; cases h2
        | some r =>
          simp only
          rw [pScore_iff] at h ⊢
          refine ⟨⟨fun x hx => ?_, putTail_sorted c l r hp h.1.2⟩, ?_⟩
          · rcases putTail_mem c l r hp x hx with e | e
            · rw [e]; exact h1.2
            · exact h.1.1 x e
          · rw [putTail_length c l r hp]; have := h.2; omega
    · exact h
  · exact h
theorem pPut_mem {l : List Cu} {c x : Cu} (hx : x ∈ (pPut l c).1) : x = c ∨ x ∈ l := by
  unfold pPut at hx
  cases hp : putTail c l with
  | none => rw [hp] at hx; exact .inr hx
  | some r => rw [hp] at hx; exact putTail_mem c l r hp x hx
theorem pAdd_mem {l : List Cu} {c x : Cu} (hx : x ∈ (pAdd l c).1) : x = c ∨ x ∈ l := by
  unfold pAdd at hx
  split at hx
  · split at hx
    · split at hx
      · exact .inr hx
      · exact pPut_mem hx
    · exact .inr hx
  · exact .inr hx
theorem spec_l7Put_j2 (pre suf : List Cu) (b : Bool) (c : Cu) (hl : (pre ++ suf).length < 1099511627776) :
    Ev (fun k => spec_l7Put.j2 k (pre ++ suf) (pre.length : Int) b c.f0 c.f1 c.f2 c.f3) (if b = true then (pre ++ suf, false) else (pre ++ c :: suf, true)) := by
  refine ev_succ ?_
  have hl2 := hl
  rw [List.length_append] at hl2
  cases b
  · simp only [spec_l7Put.j2, Bool.false_eq_true, if_false, if_pos (nn _), if_pos (show (pre.length : Int) ≤ ((pre.length + suf.length : Nat) : Int) by omega), Int.toNat_natCast, List.take_left, List.drop_left, spec_l7Copies_eq pre (by omega), Option.bind_some, List.length_cons, List.length_nil, List.length_append, if_pos (show pre.length + (0 + 1) < 3518437208883 by omega), if_pos (show pre.length + (0 + 1) + suf.length < 3518437208883 by omega)]
    simpa using Ev.now (pre ++ c :: suf, true)
  · simp only [spec_l7Put.j2, if_true, spec_l7Copies_eq _ hl, Option.bind_some]
    exact Ev.now _
theorem spec_l7Put_l0 (c : Cu) : ∀ (suf pre : List Cu), (pre ++ suf).length < 1099511627776 →
    Ev (fun k => spec_l7Put.l0 k (pre ++ suf) (pre.length : Int) c.f0 c.f1 c.f2 c.f3) (match putTail c suf with | none => (pre ++ suf, false) | some r => (pre ++ r, true)) := by
  intro suf
  induction suf with
  | nil =>
    intro pre hl
    refine ev_succ ?_
    simp only [spec_l7Put.l0, if_neg (ixn (l := pre ++ []) (pre := pre) rfl), putTail]
    refine ev_succ ?_
    simp only [spec_l7Put.j1, if_neg (ixn (l := pre ++ []) (pre := pre) rfl)]
    have := spec_l7Put_j2 pre [] false c hl
    simpa using this
  | cons a t ih =>
    intro pre hl
    obtain ⟨h1, h2, h3, h4⟩ := ix (l := pre ++ a :: t) rfl (by omega)
    refine ev_succ ?_
    simp only [spec_l7Put.l0, if_pos h1, if_pos (nn _), Int.toNat_natCast, rd_T26, h2, h3]
    refine Ev.bind (spec_CompareCues_ev _ _ _ _ _ _ _ _) ?_
    change Ev (fun k => if cCmp a c < 0 then _ else _) _
    rw [putTail]
    refine ev_ite (fun d => ?_) (fun d => ?_)
    · rw [if_pos d]
      have := ih (pre ++ [a]) (by simpa using hl)
      rw [← app1] at this
      cases hp : putTail c t with
      | none => rw [hp] at this; exact this
      | some r => rw [hp] at this; simpa using this
    · rw [if_neg d]
      refine ev_succ ?_
      simp only [spec_l7Put.j1, if_pos h1, if_pos (nn _), Int.toNat_natCast, rd_T26, h2, h3]
      refine Ev.bind (spec_CompareCues_ev _ _ _ _ _ _ _ _) ?_
      change Ev (fun k => spec_l7Put.j2 k (pre ++ a :: t) (pre.length : Int) (cCmp a c == 0) c.f0 c.f1 c.f2 c.f3) _
      have := spec_l7Put_j2 pre (a :: t) (cCmp a c == 0) c hl
      by_cases e : cCmp a c = 0
      · rw [if_pos e]; rw [if_pos (by simpa using e)] at this; exact this
      · rw [if_neg e]; rw [if_neg (by simpa using e)] at this; exact this
theorem spec_l7Put_ev (l : List Cu) (c : Cu) (hl : l.length < 1099511627776) : Ev (fun k => spec_l7Put.f k l c.f0 c.f1 c.f2 c.f3) (pPut l c) := by
  have := spec_l7Put_l0 c l [] (by simpa using hl)
  unfold pPut
  cases hp : putTail c l with
  | none => rw [hp] at this; exact this
  | some r => rw [hp] at this; exact this
theorem spec_AddCue_ev (l : List Cu) (c : Cu) (hl : l.length < 1099511627776) (hz : szN l) (hc : c.f1.size ≤ 9223372036854775807) : Ev (fun k => spec_AddCue.f k l c.f0 c.f1 c.f2 c.f3) (pAdd l c) := by
  unfold spec_AddCue.f
  refine Ev.bind (spec_l7Put_ev l c hl) ?_
  refine Ev.bind (spec_IsScore_ev l hl hz) ?_
  simp only [spec_l7Copies_eq l hl, Option.bind_some, pAdd]
  refine ev_ite (fun h => ?_) (fun h => ?_)
  · refine Ev.bind (spec_IsCue_ev _ _ _ _ hc) ?_
    change Ev (fun k => if cOk c = true then _ else _) _
    refine ev_ite (fun h2 => ?_) (fun h2 => ?_)
    · have hh : (pScore l && cOk c) = true := by rw [h, h2]; rfl
      rw [if_pos hh]
      refine ev_ite (fun h3 => ?_) (fun h3 => ?_)
      · rw [if_pos h3]
        refine ev_ite (fun h4 => ?_) (fun h4 => ?_)
        · rw [if_pos h4]; exact Ev.now _
        · rw [if_neg h4]; exact Ev.now _
      · rw [if_neg h3]; exact Ev.now _
    · have hh : ¬ (pScore l && cOk c) = true := by rw [Bool.and_eq_true]; exact fun e => h2 e.2
      rw [if_neg hh]; exact Ev.now _
  · have hh : ¬ (pScore l && cOk c) = true := by rw [Bool.and_eq_true]; exact fun e => h e.1
    rw [if_neg hh]; exact Ev.now _
theorem l1Str_ok (b : List Int) (i h : Int) (l : List ByteArray) (hb : b.length < 1099511627776) (hi : 0 ≤ i) (hl : l ≠ []) : ∃ r i' h', spec_l1Str.f b i h l = some (r, i', h') ∧ 0 ≤ i' ∧ r ∈ l := by
  obtain ⟨r, i', h', e, hi', h0, h1⟩ := l1Below_ok b i h (l.length : Int) hb hi
  have hp : 0 < l.length := List.length_pos_iff.2 hl
  unfold spec_l1Str.f
  rw [e]; simp only [Option.bind_some]
  have hlt : r < (l.length : Int) := by omega
  rw [if_pos h0, if_pos hlt]
  refine ⟨_, _, _, rfl, hi', ?_⟩
  have h2 : r.toNat < l.length := by omega
  simp only [rdOf, List.getD_eq_getElem?_getD, List.getElem?_eq_getElem h2, Option.getD_some]
  exact List.getElem_mem _
def nmL : List ByteArray := [(⟨#[97]⟩ : ByteArray), (⟨#[97]⟩ : ByteArray), (⟨#[98]⟩ : ByteArray), (⟨#[99]⟩ : ByteArray), (⟨#[114]⟩ : ByteArray), (⟨#[110, 111]⟩ : ByteArray)]
theorem nmL_size : ∀ x ∈ nmL, x.size ≤ 9223372036854775807 := by
  intro x hx
  simp only [nmL, List.mem_cons, List.not_mem_nil, or_false] at hx
  rcases hx with h | h | h | h | h | h <;> subst h <;> decide
theorem l7Name_ok (b : List Int) (i h : Int) (hb : b.length < 1099511627776) (hi : 0 ≤ i) : ∃ r i' h', spec_l7Name.f b i h = some (r, i', h') ∧ 0 ≤ i' ∧ r ∈ nmL := by
  obtain ⟨r, i', h', e, hi', hr⟩ := l1Str_ok b i h nmL hb hi (by simp [nmL])
  unfold spec_l7Name.f
  change ∃ r i' h', ((spec_l1Str.f b i h nmL).bind fun bt => some (bt.1, bt.2.1, bt.2.2)) = _ ∧ _
  rw [e]
  exact ⟨_, _, _, rfl, hi', hr⟩
theorem l7Cue_ok (b : List Int) (i h : Int) (hb : b.length < 1099511627776) (hi : 0 ≤ i) : ∃ t n v r i' h', spec_l7Cue.f b i h = some (t, n, v, r, i', h') ∧ 0 ≤ i' ∧ n ∈ nmL ∧ t < 14 := by
  obtain ⟨t, i1, h1, e1, hi1, _, ht⟩ := l1Below_ok b i h 14 hb hi
  obtain ⟨n, i2, h2, e2, hi2, hn⟩ := l7Name_ok b i1 h1 hb hi1
  obtain ⟨v, i3, h3, e3, hi3, _⟩ := l1Below_ok b i2 h2 33 hb hi2
  obtain ⟨r, i4, h4, e4, hi4, _⟩ := l1Int_ok b i3 h3 [0, 0, 1, 2, 3, 5, 8, 16] hb hi3 (by simp)
  unfold spec_l7Cue.f
  simp only [e1, e2, e3, e4, Option.bind_some]
  exact ⟨_, _, _, _, _, _, rfl, hi4, hn, by omega⟩
/-- A drawn score. -/
def dScore (l : List Cu) : Prop := pScore l = true ∧ ∀ c ∈ l, c.f1 ∈ nmL ∧ c.f0 < 14
theorem dScore_sz {l : List Cu} (h : dScore l) : szN l := fun c hc => nmL_size _ (h.2 c hc).1
theorem dScore_len {l : List Cu} (h : dScore l) : l.length < 1099511627776 := by have := pScore_len h.1; omega
theorem dScore_nil : dScore [] := ⟨rfl, fun c hc => by cases hc⟩
theorem l7Draw_l0 (b : List Int) (hb : b.length < 1099511627776) : ∀ (n : Nat) (l : List Cu) (i h : Int), (n : Int) < 1099511627776 → 0 ≤ i → dScore l →
    ∃ r i' h', Ev (fun k => spec_l7Draw.l0 k l (n : Int) b i h) (r, i', h') ∧ 0 ≤ i' ∧ dScore r := by
  intro n
  induction n with
  | zero =>
    intro l i h _ hi hl
    refine ⟨l, i, h, ev_succ ?_, hi, hl⟩
    simp only [spec_l7Draw.l0, if_neg (show ¬ (((0 : Nat) : Int) > 0) by omega)]
    exact Ev.now _
  | succ n ih =>
    intro l i h hn hi hl
    obtain ⟨t, m, v, q, i1, h1, e1, hi1, hm, ht14⟩ := l7Cue_ok b i h hb hi
    have hd : dScore (pAdd l ⟨t, m, v, q⟩).1 := ⟨pAdd_score hl.1 _, fun c hc => by
      rcases pAdd_mem hc with h | h
      · rw [h]; exact ⟨hm, ht14⟩
      · exact hl.2 c h⟩
    obtain ⟨r, i', h', e, hi', hr⟩ := ih (pAdd l ⟨t, m, v, q⟩).1 i1 h1 (by omega) hi1 hd
    refine ⟨r, i', h', ev_succ ?_, hi', hr⟩
    simp only [spec_l7Draw.l0, if_pos (show (((n + 1 : Nat) : Int) > 0) by omega), e1, Option.bind_some]
    refine Ev.bind (spec_AddCue_ev l ⟨t, m, v, q⟩ (dScore_len hl) (dScore_sz hl) (nmL_size _ hm)) ?_
    rw [show wrap64 (((n + 1 : Nat) : Int) - 1) = (n : Int) by unfold wrap64; omega]
    exact e
theorem l7Draw_ok (b : List Int) (i h n : Int) (hb : b.length < 1099511627776) (hi : 0 ≤ i) (hn : 0 ≤ n) (hn2 : n < 1000) : ∃ r i' h', Ev (fun k => spec_l7Draw.f k b i h n) (r, i', h') ∧ 0 ≤ i' ∧ dScore r := by
  have hw : wrap64 (n + 1) = n + 1 := by unfold wrap64; omega
  obtain ⟨c, i1, h1, e1, hi1, hc0, hc1⟩ := l1Below_ok b i h (n + 1) hb hi
  obtain ⟨m, rfl⟩ := Int.eq_ofNat_of_zero_le hc0
  obtain ⟨r, i', h', e, hi', hr⟩ := l7Draw_l0 b hb m [] i1 h1 (by omega) hi1 dScore_nil
  refine ⟨r, i', h', ?_, hi', hr⟩
  simp only [spec_l7Draw.f, hw, e1, Option.bind_some]
  exact e
theorem DrawScore_ok (b : List Int) (hb : b.length < 1099511627776) : ∃ l n, Ev (fun k => spec_DrawScore.f k b) (l, n) ∧ dScore l ∧ n ∈ nmL := by
  obtain ⟨h0, e0⟩ := l1New_ev b hb
  obtain ⟨l, i1, h1, e1, hi1, hl⟩ := l7Draw_ok b 0 h0 7 hb (by omega) (by omega) (by omega)
  obtain ⟨n, i2, h2, e2, hi2, hn⟩ := l7Name_ok b i1 h1 hb hi1
  refine ⟨l, n, ?_, hl, hn⟩
  unfold spec_DrawScore.f
  refine Ev.bind e0 ?_
  refine Ev.bind e1 ?_
  simp only [e2, Option.bind_some]
  exact Ev.now _
theorem DrawScore_ticks (b : List Int) (hb : b.length < 1099511627776) : ∃ l n, Ev (fun k => spec_DrawScore.f k b) (l, n) ∧ dScore l ∧ n ∈ nmL ∧ ∀ c ∈ l, c.f0 < 14 := by
  obtain ⟨l, n, e, hl, hn⟩ := DrawScore_ok b hb
  exact ⟨l, n, e, hl, hn, fun c hc => (hl.2 c hc).2⟩
theorem floor_uniq {r a b x : Int} (hr : 0 < r) (a1 : r * a ≤ x) (a2 : x < r * a + r) (b1 : r * b ≤ x) (b2 : x < r * b + r) : a = b := by
  have h1 : r * a < r * (b + 1) := by rw [Int.mul_add, Int.mul_one]; omega
  have h2 : r * b < r * (a + 1) := by rw [Int.mul_add, Int.mul_one]; omega
  have g1 := Int.lt_of_mul_lt_mul_left h1 (by omega)
  have g2 := Int.lt_of_mul_lt_mul_left h2 (by omega)
  omega
theorem Int.ediv_le_self_of_abs (x r : Int) (hr : 0 < r) (hx : -100000 ≤ x ∧ x ≤ 100000) : x / r ≤ 100000 := by
  have : x / r * r ≤ x := Int.ediv_mul_le x (by omega)
  apply Decidable.byContradiction
  intro h
  have h2 : 100001 * r ≤ x / r * r := Int.mul_le_mul_of_nonneg_right (by omega) (by omega)
  have h3 : 100001 * 1 ≤ 100001 * r := Int.mul_le_mul_of_nonneg_left (by omega) (by omega)
  omega
theorem pFloor_ok {x r : Int} (hr : 0 < r) (hx : -100000 ≤ x ∧ x ≤ 100000) (hr2 : r ≤ 1000) : r * pFloor x r ≤ x ∧ x < r * pFloor x r + r := by
  have hq : -100000 ≤ x / r ∧ x / r ≤ 100000 := by
    constructor
    · exact Int.le_ediv_of_mul_le hr (by have : -100000 * r ≤ -100000 * 1 := Int.mul_le_mul_of_nonpos_left (by omega) (by omega)
                                         omega)
    · have := Int.ediv_le_self_of_abs x r hr hx
      exact this
  have h1 : r * (x / r) ≤ x := Int.mul_ediv_self_le (by omega)
  have h2 : x < r * (x / r) + r := Int.lt_mul_ediv_self_add hr
  have key : pFloor x r = x / r := by
    unfold pFloor
    by_cases h : 0 ≤ x
    · rw [Int.tmod_eq_emod_of_nonneg h, Int.tdiv_eq_ediv_of_nonneg h, if_neg (by have := Int.emod_nonneg x (show r ≠ 0 by omega); omega)]
      unfold wrap64; omega
    · have e1 : Int.tmod x r = -(-x % r) := by
        rw [← Int.tmod_eq_emod_of_nonneg (a := -x) (b := r) (by omega), Int.neg_tmod, Int.neg_neg]
      have e2 : Int.tdiv x r = -(-x / r) := by
        rw [← Int.tdiv_eq_ediv_of_nonneg (a := -x) (b := r) (by omega), Int.neg_tdiv, Int.neg_neg]
      have g1 := Int.emod_nonneg (-x) (show r ≠ 0 by omega)
      have g2 := Int.emod_lt_of_pos (-x) hr
      have g3 := Int.mul_ediv_add_emod (-x) r
      have g4 := Int.mul_ediv_add_emod x r
      have g5 := Int.emod_nonneg x (show r ≠ 0 by omega)
      have g6 := Int.emod_lt_of_pos x hr
      rw [e1, e2]
      -- r * (-x / r) + (-x) % r = -x
      have hu : r * (-(-x / r)) = x + -x % r := by rw [Int.mul_neg]; omega
      by_cases c : -(-x % r) < 0
      · rw [if_pos c]
        have hE : -(-x / r) - 1 = x / r := by
          have l1 : r * (-(-x / r) - 1) ≤ x := by rw [Int.mul_sub, hu, Int.mul_one]; omega
          have l2 : x < r * (-(-x / r) - 1) + r := by rw [Int.mul_sub, hu, Int.mul_one]; omega
          exact floor_uniq hr l1 l2 h1 h2
        have hw : wrap64 (-(-x / r)) = -(-x / r) := by unfold wrap64; omega
        rw [hw, hE]
        unfold wrap64; omega
      · rw [if_neg c]
        have hE : -(-x / r) = x / r := by
          have l1 : r * (-(-x / r)) ≤ x := by rw [hu]; omega
          have l2 : x < r * (-(-x / r)) + r := by rw [hu]; omega
          exact floor_uniq hr l1 l2 h1 h2
        rw [hE]
        unfold wrap64; omega
  rw [key]; exact ⟨h1, h2⟩
theorem pRamp_range {a b d r : Int} (ha : 0 ≤ a ∧ a ≤ 32) (hb : 0 ≤ b ∧ b ≤ 32) (hr : 0 ≤ r ∧ r ≤ 16) : min a b ≤ pRamp a b d r ∧ pRamp a b d r ≤ max a b := by
  unfold pRamp
  rw [if_pos (by simp only [rMeas, Bool.and_eq_true, decide_eq_true_eq]; omega)]
  by_cases h1 : r ≤ d
  · rw [if_pos h1]; omega
  · rw [if_neg h1]
    by_cases h2 : d ≤ 0
    · rw [if_pos h2]; omega
    · rw [if_neg h2, if_neg (by omega)]
      have hw : wrap64 (b - a) = b - a := by unfold wrap64; omega
      have m1 : d * (-32) ≤ d * (b - a) := Int.mul_le_mul_of_nonneg_left (by omega) (by omega)
      have m2 : d * (b - a) ≤ d * 32 := Int.mul_le_mul_of_nonneg_left (by omega) (by omega)
      have hw2 : wrap64 (d * (b - a)) = d * (b - a) := by unfold wrap64; omega
      rw [hw, hw2]
      obtain ⟨f1, f2⟩ := pFloor_ok (x := d * (b - a)) (r := r) (by omega) (by omega) (by omega)
      generalize pFloor (d * (b - a)) r = q at f1 f2
      have key : (0 ≤ b - a → 0 ≤ q ∧ q ≤ b - a) ∧ (b - a ≤ 0 → b - a ≤ q ∧ q ≤ 0) := by
        constructor
        · intro h
          have k1 : 0 ≤ d * (b - a) := Int.mul_nonneg (by omega) h
          have k2 : d * (b - a) ≤ r * (b - a) := Int.mul_le_mul_of_nonneg_right (by omega) h
          constructor
          · have : r * (-1) < r * q := by rw [Int.mul_neg, Int.mul_one]; omega
            have := Int.lt_of_mul_lt_mul_left this (by omega)
            omega
          · have : r * q < r * (b - a + 1) := by rw [Int.mul_add, Int.mul_one]; omega
            have := Int.lt_of_mul_lt_mul_left this (by omega)
            omega
        · intro h
          have k1 : d * (b - a) ≤ 0 := Int.mul_nonpos_of_nonneg_of_nonpos (by omega) h
          have k2 : r * (b - a) ≤ d * (b - a) := Int.mul_le_mul_of_nonpos_right (by omega) h
          constructor
          · have : r * (b - a - 1) < r * q := by rw [Int.mul_sub, Int.mul_one]; omega
            have := Int.lt_of_mul_lt_mul_left this (by omega)
            omega
          · have : r * q < r * 1 := by rw [Int.mul_one]; omega
            have := Int.lt_of_mul_lt_mul_left this (by omega)
            omega
      have hq : -32 ≤ q ∧ q ≤ 32 := by
        by_cases h : 0 ≤ b - a
        · have := key.1 h; omega
        · have := key.2 (by omega); omega
      have hw3 : wrap64 (a + q) = a + q := by unfold wrap64; omega
      rw [hw3]
      by_cases h : 0 ≤ b - a
      · have := key.1 h; omega
      · have := key.2 (by omega); omega
theorem cOk_val {c : Cu} (h : cOk c = true) : (0 ≤ c.f0 ∧ c.f0 ≤ 64) ∧ (0 ≤ c.f2 ∧ c.f2 ≤ 32) ∧ (0 ≤ c.f3 ∧ c.f3 ≤ 16) := by
  simp only [cOk, pCue, Bool.and_eq_true, decide_eq_true_eq] at h
  exact ⟨h.1, h.2.2.1, h.2.2.2⟩
theorem pLevL_range (nm : ByteArray) (t : Int) : ∀ (l : List Cu) (v t0 v1 r : Int), (∀ c ∈ l, cOk c = true) → (0 ≤ v ∧ v ≤ 32) → (0 ≤ v1 ∧ v1 ≤ 32) → (0 ≤ r ∧ r ≤ 16) → 0 ≤ pLevL nm t v t0 v1 r l ∧ pLevL nm t v t0 v1 r l ≤ 32
  | [], v, t0, v1, r, _, hv, hv1, hr => by
    rw [pLevL]; have := pRamp_range (d := wrap64 (t - t0)) hv hv1 hr; omega
  | c :: l, v, t0, v1, r, hc, hv, hv1, hr => by
    have hcv := cOk_val (hc c (by simp))
    have hl := fun x hx => hc x (List.mem_cons_of_mem _ hx)
    rw [pLevL]
    split
    · split
      · have := pRamp_range (d := wrap64 (c.f0 - t0)) hv hv1 hr
        exact pLevL_range nm t l _ _ _ _ hl (by omega) hcv.2.1 hcv.2.2
      · exact pLevL_range nm t l _ _ _ _ hl hv hv1 hr
    · exact pLevL_range nm t l _ _ _ _ hl hv hv1 hr
/-- Cues of the name that lie behind t change nothing. -/
theorem pLevL_skip (nm : ByteArray) (t : Int) : ∀ (l : List Cu) (v t0 v1 r : Int), (∀ c ∈ l, c.f1.toList = nm.toList → t < c.f0) → pLevL nm t v t0 v1 r l = pRamp v v1 (wrap64 (t - t0)) r
  | [], _, _, _, _, _ => rfl
  | c :: l, v, t0, v1, r, h => by
    have hc := h c (by simp)
    rw [pLevL]
    split
    · rename_i e
      have := hc e
      rw [if_neg (by omega)]; exact pLevL_skip nm t l _ _ _ _ (fun x hx => h x (by simp [hx]))
    · exact pLevL_skip nm t l _ _ _ _ (fun x hx => h x (by simp [hx]))
theorem pLevL_cons (nm : ByteArray) (t v t0 v1 r : Int) (c : Cu) (l : List Cu) : pLevL nm t v t0 v1 r (c :: l) = if c.f1.toList = nm.toList then (if c.f0 ≤ t then pLevL nm t (pRamp v v1 (wrap64 (c.f0 - t0)) r) c.f0 c.f2 c.f3 l else pLevL nm t v t0 v1 r l) else pLevL nm t v t0 v1 r l := by rw [pLevL]
theorem pLevL_at (nm : ByteArray) (t : Int) (c : Cu) (suf : List Cu) (hn : c.f1.toList = nm.toList) (hct : c.f0 ≤ t) (hs : ∀ x ∈ suf, x.f1.toList = nm.toList → t < x.f0) : ∀ (pre : List Cu) (v t0 v1 r : Int), (∀ x ∈ pre, x.f0 ≤ c.f0) →
    pLevL nm t v t0 v1 r (pre ++ c :: suf) = pRamp (pLevL nm c.f0 v t0 v1 r pre) c.f2 (wrap64 (t - c.f0)) c.f3
  | [], v, t0, v1, r, _ => by
    rw [List.nil_append, pLevL_cons, if_pos hn, if_pos hct, pLevL_skip nm t suf _ _ _ _ hs, pLevL]
  | p :: pre, v, t0, v1, r, hp => by
    have hpp := hp p (by simp)
    have ih := fun v t0 v1 r => pLevL_at nm t c suf hn hct hs pre v t0 v1 r (fun x hx => hp x (by simp [hx]))
    rw [List.cons_append, pLevL_cons, pLevL_cons]
    by_cases e : p.f1.toList = nm.toList
    · simp only [if_pos e, if_pos (show p.f0 ≤ t by omega), if_pos hpp]; exact ih _ _ _ _
    · simp only [if_neg e]; exact ih _ _ _ _
def nxtT (nm : ByteArray) : List Cu → Int
  | [] => 84
  | c :: l => if c.f1.toList = nm.toList then c.f0 else nxtT nm l
theorem nxtT_le (nm : ByteArray) : ∀ (l : List Cu), l.Pairwise (fun a b => cLt a b = true) → ∀ x ∈ l, x.f1.toList = nm.toList → nxtT nm l ≤ x.f0
  | [], _, x, hx, _ => by cases hx
  | c :: l, hp, x, hx, hn => by
    rw [List.pairwise_cons] at hp
    rw [nxtT]
    cases hx with
    | head => rw [if_pos hn]; exact Int.le_refl _
    | tail _ hx =>
      split
      · have := hp.1 x hx
        rw [cLt_iff] at this; omega
      · exact nxtT_le nm l hp.2 x hx hn
theorem nxtT_bound (nm : ByteArray) : ∀ (l : List Cu), (∀ c ∈ l, cOk c = true) → 0 ≤ nxtT nm l ∧ nxtT nm l ≤ 84
  | [], _ => by rw [nxtT]; omega
  | c :: l, h => by
    rw [nxtT]
    split
    · have := cOk_val (h c (by simp)); omega
    · exact nxtT_bound nm l (fun x hx => h x (by simp [hx]))
theorem pLevel_none {l : List Cu} (h : pScore l = true) (nm : ByteArray) (t : Int) (ht : 0 ≤ t) (hn : ∀ c ∈ l, c.f1.toList = nm.toList → t < c.f0) : pLevel l nm t = 0 := by
  rw [pLevel, if_pos h, if_neg (by omega), pLevL_skip nm t l _ _ _ _ hn]
  have := pRamp_range (a := 0) (b := 0) (d := wrap64 (t - 0)) (r := 0) (by omega) (by omega) (by omega)
  omega
def pEndL : List Cu → Int → Int
  | [], e => e
  | x :: t, e => pEndL t (if t.any (fun y => decide (y.f1.toList = x.f1.toList)) = true then e else max e (wrap64 (x.f0 + x.f3)))
/-- EndOf -/
def pEnd (l : List Cu) : Int := if pScore l = true then pEndL l 0 else 0
theorem spec_l1Max_eq2 (a b : Int) : spec_l1Max.f a b = some (max a b) := by
  unfold spec_l1Max.f; split <;> simp <;> omega
theorem spec_EndOf_l1 (l : List Cu) (hl : l.length < 1099511627776) (hz : szN l) (e : Int) (i : Nat) (c : Cu) (ys : List Cu) (hy : ys.length < 1099511627776) (R : Int) : ∀ (s2 p2 : List Cu) (x6 : Bool), ys = p2 ++ s2 →
    Ev (fun k => spec_EndOf.l0 k l (if pScore l = true then (if (x6 && s2.all (fun y => y.f1.toList != c.f1.toList)) = true then max e (wrap64 (c.f0 + c.f3)) else e) else e) l (l.length : Int) (wrap64 ((i : Int) + 1))) R →
    Ev (fun k => spec_EndOf.l1 k l e x6 l (l.length : Int) (i : Int) ys (ys.length : Int) (p2.length : Int) c.f0 c.f1 c.f2 c.f3) R := by
  intro s2
  induction s2 with
  | nil =>
    intro p2 x6 h g
    refine ev_succ ?_
    simp only [spec_EndOf.l1, if_neg (ixn h)]
    refine Ev.bind (spec_IsScore_ev l hl hz) ?_
    simp only [List.all_nil, Bool.and_true] at g
    refine ev_ite (fun d => ?_) (fun d => ?_)
    · rw [if_pos d] at g
      refine ev_ite (fun d2 => ?_) (fun d2 => ?_)
      · rw [if_pos d2] at g
        simp only [spec_l1Max_eq2, Option.bind_some]
        exact g
      · rw [if_neg d2] at g; exact g
    · rw [if_neg d] at g; exact g
  | cons a s ih =>
    intro p2 x6 h g
    obtain ⟨h1, h2, h3, h4⟩ := ix h (by omega)
    refine ev_succ ?_
    simp only [spec_EndOf.l1, if_pos h1, if_pos (nn _), Int.toNat_natCast, rd_T26, h2, h3]
    rw [List.all_cons] at g
    refine ev_ite (fun d => ?_) (fun d => ?_)
    · refine ih (p2 ++ [a]) _ h4 ?_
      rw [d, Bool.true_and] at g; exact g
    · refine ih (p2 ++ [a]) _ h4 ?_
      rw [Bool.eq_false_iff.2 d, Bool.false_and] at g
      rw [Bool.false_and]; exact g
theorem any_all (l : List Cu) (c : Cu) : l.any (fun y => decide (y.f1.toList = c.f1.toList)) = !(l.all (fun y => y.f1.toList != c.f1.toList)) := by
  induction l with
  | nil => rfl
  | cons a t ih =>
    rw [List.any_cons, List.all_cons, ih]
    by_cases h : a.f1.toList = c.f1.toList
    · simp [h]
    · simp [h]
theorem spec_EndOf_l0 (l : List Cu) (hl : l.length < 1099511627776) (hz : szN l) : ∀ (suf pre : List Cu) (e : Int), l = pre ++ suf →
    Ev (fun k => spec_EndOf.l0 k l e l (l.length : Int) (pre.length : Int)) (if pScore l = true then pEndL suf e else e) := by
  intro suf
  induction suf with
  | nil =>
    intro pre e h
    refine ev_succ ?_
    simp only [spec_EndOf.l0, if_neg (ixn h), pEndL]
    split <;> exact Ev.now _
  | cons a s ih =>
    intro pre e h
    obtain ⟨h1, h2, h3, h4⟩ := ix h (by omega)
    refine ev_succ ?_
    have hw : wrap64 ((pre.length : Int) + 1) = ((pre.length + 1 : Nat) : Int) := by unfold wrap64; omega
    have hd : l.drop (pre.length + 1) = s := by rw [h]; simp
    simp only [spec_EndOf.l0, if_pos h1, if_pos (nn _), Int.toNat_natCast, rd_T26, h2, hw, if_pos (show ((pre.length + 1 : Nat) : Int) ≤ (l.length : Int) by omega), Option.bind_some, hd]
    have hsl : s.length < 1099511627776 := by rw [h] at hl; simp at hl; omega
    refine spec_EndOf_l1 l hl hz e pre.length a s hsl _ s [] true rfl ?_
    rw [h3]
    have := ih (pre ++ [a]) (if pScore l = true then (if s.any (fun y => decide (y.f1.toList = a.f1.toList)) = true then e else max e (wrap64 (a.f0 + a.f3))) else e) h4
    rw [Bool.true_and]
    by_cases d : pScore l = true
    · rw [if_pos d] at this ⊢
      rw [if_pos d, pEndL]
      rw [if_pos d] at this
      rw [any_all] at this ⊢
      cases hb : s.all (fun y => y.f1.toList != a.f1.toList)
      · rw [hb] at this; simpa using this
      · rw [hb] at this; simpa using this
    · rw [if_neg d] at this ⊢
      rw [if_neg d] at this ⊢
      exact this
theorem spec_EndOf_ev (l : List Cu) (hl : l.length < 1099511627776) (hz : szN l) : Ev (fun k => spec_EndOf.f k l) (pEnd l) := spec_EndOf_l0 l hl hz l [] 0 rfl
theorem impl_EndOf_x0 (nm : ByteArray) (ys : List Cu) (hy : ys.length < 1099511627776) : ∀ (s p : List Cu), ys = p ++ s → Ev (fun k => impl_EndOf.x0 k nm ys (p.length : Int)) (s.any (fun y => decide (y.f1.toList = nm.toList))) := by
  intro s
  induction s with
  | nil =>
    intro p h
    refine ev_succ ?_
    simp only [impl_EndOf.x0, if_neg (ixn h)]
    exact Ev.now _
  | cons a s ih =>
    intro p h
    obtain ⟨h1, h2, h3, h4⟩ := ix h (by omega)
    refine ev_succ ?_
    simp only [impl_EndOf.x0, if_pos h1, if_pos (nn _), Int.toNat_natCast, rd_T26, h2, h3]
    rw [List.any_cons]
    refine ev_ite (fun c => ?_) (fun c => ?_)
    · rw [decide_eq_true c, Bool.true_or]; exact Ev.now _
    · rw [decide_eq_false c, Bool.false_or]; exact ih _ h4
theorem impl_EndOf_l0 (l : List Cu) (hl : l.length < 1099511627776) : ∀ (suf pre : List Cu) (e : Int), l = pre ++ suf →
    Ev (fun k => impl_EndOf.l0 k l e (pre.length : Int)) (pEndL suf e) := by
  intro suf
  induction suf with
  | nil =>
    intro pre e h
    refine ev_succ ?_
    simp only [impl_EndOf.l0, if_neg (ixn h), pEndL]
    exact Ev.now _
  | cons a s ih =>
    intro pre e h
    obtain ⟨h1, h2, h3, h4⟩ := ix h (by omega)
    refine ev_succ ?_
    have hw : wrap64 ((pre.length : Int) + 1) = ((pre.length + 1 : Nat) : Int) := by unfold wrap64; omega
    have hd : l.drop (pre.length + 1) = s := by rw [h]; simp
    simp only [impl_EndOf.l0, if_pos h1, if_pos (nn _), Int.toNat_natCast, rd_T26, h2, hw, if_pos (show ((pre.length + 1 : Nat) : Int) ≤ (l.length : Int) by omega), hd]
    have hsl : s.length < 1099511627776 := by rw [h] at hl; simp at hl; omega
    refine Ev.bind (impl_EndOf_x0 a.f1 s hsl s [] rfl) ?_
    rw [pEndL]
    have hn : ((pre.length + 1 : Nat) : Int) = ((pre ++ [a]).length : Int) := by simp
    rw [hn]
    refine ev_ite (fun c => ?_) (fun c => ?_)
    · rw [if_pos c]; exact ih (pre ++ [a]) _ h4
    · rw [if_neg c, mx_max]; exact ih (pre ++ [a]) _ h4
theorem impl_EndOf_ev (l : List Cu) (hl : l.length < 1099511627776) (hz : szN l) : Ev (fun k => impl_EndOf.f k l) (pEnd l) := by
  unfold impl_EndOf.f pEnd
  refine Ev.bind (impl_IsScore_ev l hl hz) ?_
  refine ev_ite (fun c => ?_) (fun c => ?_)
  · rw [if_pos c]; exact impl_EndOf_l0 l hl l [] 0 rfl
  · rw [if_neg c]; exact Ev.now _
theorem pRamp_r {a b d r : Int} (ha : 0 ≤ a ∧ a ≤ 32) (hb : 0 ≤ b ∧ b ≤ 32) (h : r ≤ d) : pRamp a b d r = b := by
  unfold pRamp
  rw [if_pos (by simp only [rMeas, Bool.and_eq_true, decide_eq_true_eq]; omega), if_pos h]
def finV (nm : ByteArray) : Int → List Cu → Int
  | v, [] => v
  | v, c :: l => if c.f1.toList = nm.toList then finV nm c.f2 l else finV nm v l
def endOK (nm : ByteArray) (t : Int) : List Cu → Prop
  | [] => True
  | c :: l => (c.f1.toList = nm.toList → c.f0 ≤ t ∧ ((∀ y ∈ l, ¬ y.f1.toList = nm.toList) → c.f0 + c.f3 ≤ t)) ∧ endOK nm t l
theorem endOK_mem (nm : ByteArray) (t : Int) : ∀ (l : List Cu), endOK nm t l → ∀ y ∈ l, y.f1.toList = nm.toList → y.f0 ≤ t
  | [], _, y, hy, _ => by cases hy
  | c :: l, h, y, hy, hn => by
    cases hy with
    | head => exact (h.1 hn).1
    | tail _ hy => exact endOK_mem nm t l h.2 y hy hn
theorem pLevL_fin (nm : ByteArray) (t : Int) (ht : 0 ≤ t ∧ t ≤ 1000) : ∀ (l : List Cu) (v t0 v1 r : Int), (∀ c ∈ l, cOk c = true) → (0 ≤ v ∧ v ≤ 32) → (0 ≤ v1 ∧ v1 ≤ 32) → (0 ≤ t0 ∧ t0 ≤ 64) → (0 ≤ r ∧ r ≤ 16) → endOK nm t l → ((∀ y ∈ l, ¬ y.f1.toList = nm.toList) → r ≤ t - t0) →
    (∀ y ∈ l, y.f1.toList = nm.toList → t0 ≤ y.f0) → l.Pairwise (fun a b => cLt a b = true) → pLevL nm t v t0 v1 r l = finV nm v1 l
  | [], v, t0, v1, r, _, hv, hv1, ht0, hr, _, h, _, _ => by
    rw [pLevL, finV]
    have := h (fun y hy => by cases hy)
    exact pRamp_r hv hv1 (by rw [show wrap64 (t - t0) = t - t0 by unfold wrap64; omega]; exact this)
  | c :: l, v, t0, v1, r, hc, hv, hv1, ht0, hr, he, h, hlt, hp => by
    rw [List.pairwise_cons] at hp
    have hcc := hc c (by simp)
    have hcv : (0 ≤ c.f0 ∧ c.f0 ≤ 64) ∧ (0 ≤ c.f2 ∧ c.f2 ≤ 32) ∧ (0 ≤ c.f3 ∧ c.f3 ≤ 16) := by
      simp only [cOk, pCue, Bool.and_eq_true, decide_eq_true_eq] at hcc
      exact ⟨hcc.1, hcc.2.2.1, hcc.2.2.2⟩
    have hl := fun x hx => hc x (List.mem_cons_of_mem _ hx)
    rw [pLevL, finV]
    by_cases e : c.f1.toList = nm.toList
    · rw [if_pos e, if_pos e, if_pos (he.1 e).1]
      have hpr : 0 ≤ pRamp v v1 (wrap64 (c.f0 - t0)) r ∧ pRamp v v1 (wrap64 (c.f0 - t0)) r ≤ 32 := by
        have := pRamp_range (d := wrap64 (c.f0 - t0)) hv hv1 hr
        omega
      exact pLevL_fin nm t ht l _ _ _ _ hl hpr hcv.2.1 hcv.1 hcv.2.2 he.2 (fun hh => by have := (he.1 e).2 hh; omega)
        (fun y hy _ => by have := hp.1 y hy; rw [cLt_iff] at this; omega) hp.2
    · rw [if_neg e, if_neg e]
      exact pLevL_fin nm t ht l _ _ _ _ hl hv hv1 ht0 hr he.2 (fun hh => h (fun y hy => by
        cases hy with
        | head => exact e
        | tail _ hy => exact hh y hy)) (fun y hy hn => hlt y (by simp [hy]) hn) hp.2
theorem pEndL_ge : ∀ (l : List Cu) (e : Int), e ≤ pEndL l e
  | [], e => Int.le_refl _
  | x :: t, e => by
    rw [pEndL]
    have := pEndL_ge t (if t.any (fun y => decide (y.f1.toList = x.f1.toList)) = true then e else max e (wrap64 (x.f0 + x.f3)))
    split at this
    · rename_i h; rw [if_pos h]; exact this
    · rename_i h; rw [if_neg h]; omega
theorem pEndL_le : ∀ (l : List Cu) (e : Int), (∀ c ∈ l, cOk c = true) → e ≤ 80 → pEndL l e ≤ 80
  | [], e, _, h => h
  | x :: t, e, hc, h => by
    have hcc := hc x (by simp)
    simp only [cOk, pCue, Bool.and_eq_true, decide_eq_true_eq] at hcc
    rw [pEndL]
    refine pEndL_le t _ (fun y hy => hc y (by simp [hy])) ?_
    split
    · exact h
    · rw [show wrap64 (x.f0 + x.f3) = x.f0 + x.f3 by unfold wrap64; omega]; omega
theorem pEndL_ok (nm : ByteArray) (t : Int) : ∀ (l : List Cu) (e : Int), (∀ c ∈ l, cOk c = true) → l.Pairwise (fun a b => cLt a b = true) → pEndL l e ≤ t → endOK nm t l
  | [], _, _, _, _ => trivial
  | c :: l, e, hc, hp, h => by
    rw [List.pairwise_cons] at hp
    have hcc := hc c (by simp)
    simp only [cOk, pCue, Bool.and_eq_true, decide_eq_true_eq] at hcc
    rw [pEndL] at h
    have ih := pEndL_ok nm t l _ (fun y hy => hc y (by simp [hy])) hp.2 h
    refine ⟨fun hn => ?_, ih⟩
    have h2 : (∀ y ∈ l, ¬ y.f1.toList = nm.toList) → c.f0 + c.f3 ≤ t := by
      intro hh
      have hf : ¬ l.any (fun y => decide (y.f1.toList = c.f1.toList)) = true := by
        rw [List.any_eq_true]
        rintro ⟨y, hy, hd⟩
        exact hh y hy ((of_decide_eq_true hd).trans hn)
      rw [if_neg hf] at h
      have g := pEndL_ge l (max e (wrap64 (c.f0 + c.f3)))
      rw [show wrap64 (c.f0 + c.f3) = c.f0 + c.f3 by unfold wrap64; omega] at g h
      have g2 : c.f0 + c.f3 ≤ max e (c.f0 + c.f3) := Int.le_max_right _ _
      exact Int.le_trans g2 (Int.le_trans g h)
    refine ⟨?_, h2⟩
    by_cases hh : ∀ y ∈ l, ¬ y.f1.toList = nm.toList
    · have := h2 hh; omega
    · obtain ⟨y, hy, hyn⟩ : ∃ y ∈ l, y.f1.toList = nm.toList := by
        apply Classical.byContradiction
        intro k
        exact hh (fun y hy hyn => k ⟨y, hy, hyn⟩)
      have a1 := endOK_mem nm t l ih y hy hyn
      have a2 := hp.1 y hy
      rw [cLt_iff] at a2
      have a3 : c.f0 ≤ y.f0 := by
        rcases a2 with h | h
        · exact Int.le_of_lt h
        · exact Int.le_of_eq h.1
      exact Int.le_trans a3 a1
theorem FnEnd : laws_FnEnd.Pure := by
  intro bs _ _ _
  refine Ev.rounds ?_
  simp only [laws_FnEnd.f, laws_big_eq, Option.bind_some, decide_eq_true_eq]
  refine ev_ite (fun _ => Ev.now _) (fun h => ?_)
  obtain ⟨l, nm, e, hl, hn⟩ := DrawScore_ok bs (by omega)
  refine Ev.bind e ?_
  have hlen := dScore_len hl
  have hsz := dScore_sz hl
  have hsc := (pScore_iff l).1 hl.1
  refine Ev.bind (impl_EndOf_ev l hlen hsz) ?_
  refine Ev.bind (spec_EndOf_ev l hlen hsz) ?_
  simp only [if_true]
  have hE : pEnd l = pEndL l 0 := by rw [pEnd, if_pos hl.1]
  have h0 : 0 ≤ pEnd l := by rw [hE]; exact pEndL_ge l 0
  have h80 : pEnd l ≤ 80 := by rw [hE]; exact pEndL_le l 0 hsc.1.1 (by omega)
  have lev : ∀ t, pEnd l ≤ t → t ≤ 1000 → pLevel l nm t = finV nm 0 l := by
    intro t t1 t2
    rw [pLevel, if_pos hl.1, if_neg (by omega)]
    exact pLevL_fin nm t ⟨by omega, t2⟩ l 0 0 0 0 hsc.1.1 (by omega) (by omega) (by omega) (by omega) (pEndL_ok nm t l 0 hsc.1.1 hsc.1.2 (by rw [← hE]; exact t1)) (fun _ => by omega)
      (fun y hy _ => by
        have := hsc.1.1 y hy
        simp only [cOk, pCue, Bool.and_eq_true, decide_eq_true_eq] at this
        exact this.1.1) hsc.1.2
  generalize pEnd l = n at h0 h80 lev
  have key : ∀ (d : Nat) (t : Int), n ≤ t → t + d = n + 20 → Ev (fun k => laws_FnEnd.l0 k l nm n t) true := by
    intro d
    induction d with
    | zero =>
      intro t t0 td
      refine ev_succ ?_
      simp only [laws_FnEnd.l0]
      rw [show wrap64 (n + 20) = n + 20 by unfold wrap64; omega]
      simp only [if_neg (show ¬ t < n + 20 by omega)]
      exact Ev.now _
    | succ d ih =>
      intro t t0 td
      refine ev_succ ?_
      simp only [laws_FnEnd.l0]
      rw [show wrap64 (n + 20) = n + 20 by unfold wrap64; omega, show wrap64 (t + 1) = t + 1 by unfold wrap64; omega]
      simp only [if_pos (show t < n + 20 by omega)]
      refine Ev.bind (impl_LevelAt_ev l nm t hlen hsz) ?_
      refine Ev.bind (impl_LevelAt_ev l nm n hlen hsz) ?_
      rw [lev t t0 (by omega), lev n (Int.le_refl _) (by omega)]
      simp only [if_true]
      exact ih (t + 1) (by omega) (by omega)
  exact key 20 n (Int.le_refl _) (by omega)

end Go.Proofs.Ytamddnjcgnidiaa.Pure
