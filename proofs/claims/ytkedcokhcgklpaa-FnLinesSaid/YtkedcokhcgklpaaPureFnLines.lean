/- The law FnLines comes to true for every input: nozzles and lamps hang on a pump, and devices on one line on the same one. (P6) No condition beside the statement's own. -/
import Derived.Test.YtkedcokhcgklpaaStFnLines
namespace Go.Proofs.Ytkedcokhcgklpaa.Pure
open Go Go.RowKit Go.Proofs.Ytkedcokhcgklpaa.MFnLines Go.Proofs.YtkedcokhcgklpaaW.PrintWords Go.Proofs.YtkedcokhcgklpaaW.PrintLast Go.Proofs.YtkedcokhcgklpaaW.PrintMore
set_option linter.unusedVariables false
set_option linter.unusedSimpArgs false

theorem ev_succ {α : Type} {g : Nat → Option α} {r : α} (h : Ev (fun k => g (k + 1)) r) : Ev g r := Ev.step (fun _ => rfl) h
theorem ev_ite {α : Type} {c : Prop} [Decidable c] {f g : Nat → Option α} {r : α} (h : c → Ev f r) (h' : ¬ c → Ev g r) : Ev (fun k => if c then f k else g k) r := by
  by_cases hc : c
  · simp only [if_pos hc]; exact h hc
  · simp only [if_neg hc]; exact h' hc
theorem ix {α : Type} {l pre t : List α} {a : α} (h : l = pre ++ a :: t) (hl : l.length < 4611686018427387904) :
    (pre.length : Int) < (l.length : Int) ∧ (∀ d, l.getD pre.length d = a) ∧ wrap64 ((pre.length : Int) + 1) = ((pre ++ [a]).length : Int) ∧ l = (pre ++ [a]) ++ t := by
  subst h
  simp only [List.length_append, List.length_cons, List.length_nil] at *
  refine ⟨by omega, fun d => by simp [List.getD], by unfold wrap64; omega, by simp⟩
theorem ixn {α : Type} {l pre : List α} (h : l = pre ++ []) : ¬ (pre.length : Int) < (l.length : Int) := by
  subst h; simp
theorem nn (n : Nat) : (0 : Int) ≤ (n : Int) := Int.natCast_nonneg n
theorem w64 {n : Int} (h0 : -9223372036854775808 ≤ n) (h1 : n < 9223372036854775808) : wrap64 n = n := by unfold wrap64; omega
theorem mn_min (a b : Int) : mn a b = min a b := by unfold mn; omega
theorem mx_max (a b : Int) : mx a b = max a b := by unfold mx; omega
theorem set_app {α : Type} (pre t : List α) (a b : α) : (pre ++ a :: t).set pre.length b = pre ++ b :: t := by simp
theorem app1 {α : Type} (pre : List α) (a : α) (t : List α) : pre ++ a :: t = (pre ++ [a]) ++ t := by simp

/-- The numbers from c on, n of them. -/
def upto : Nat → Int → List Int
  | 0, _ => []
  | n + 1, c => c :: upto n (c + 1)
theorem upto_length : ∀ n c, (upto n c).length = n
  | 0, _ => rfl
  | n + 1, c => by simp [upto, upto_length n]

theorem spec_l1In_eq (a b c : Int) : spec_l1In.f a b c = some (decide (b ≤ a) && decide (a ≤ c)) := by
  unfold spec_l1In.f; split <;> simp <;> omega
theorem impl_isWithin_eq (a b c : Int) : impl_isWithin.f a b c = some (decide (b ≤ a) && decide (a ≤ c)) := by
  unfold impl_isWithin.f; split <;> simp <;> omega
def pSup (n : Int) : Bool := decide (0 ≤ n) && decide (n ≤ 512)
theorem spec_l5Supply_eq (n : Int) : spec_l5Supply.f n = some (pSup n) := by
  simp only [spec_l5Supply.f, spec_l1In_eq, Option.bind_some, pSup]
theorem impl_isSupply_eq (n : Int) : impl_isSupply.f n = some (pSup n) := by
  simp only [impl_isSupply.f, impl_isWithin_eq, Option.bind_some, pSup]
theorem and255 (x : Int) : 0 ≤ Go.bits .and .i64 x 255 ∧ Go.bits .and .i64 x 255 ≤ 255 := by
  have h : ((BitVec.ofInt 64 x) &&& (BitVec.ofInt 64 255)).toNat ≤ 255 := by
    rw [BitVec.toNat_and]
    refine Nat.le_trans Nat.and_le_right ?_
    decide
  have e : Go.bits .and .i64 x 255 = IntKind.i64.wrap (((BitVec.ofInt 64 x) &&& (BitVec.ofInt 64 255)).toNat : Int) := by
    rfl
  rw [e]
  generalize ((BitVec.ofInt 64 x) &&& (BitVec.ofInt 64 255)).toNat = m at h
  rw [IntKind.wrap_i64]; omega
theorem l1Byte_ok (b : List Int) (i h : Int) (hb : b.length < 1099511627776) (hi : 0 ≤ i) : ∃ r i' h', spec_l1Byte.f b i h = some (r, i', h') ∧ 0 ≤ i' ∧ 0 ≤ r ∧ r ≤ 255 := by
  unfold spec_l1Byte.f
  split
  · exact ⟨_, _, _, rfl, by unfold wrap64; omega, and255 _⟩
  · exact ⟨_, _, _, rfl, hi, and255 _⟩
theorem l1Below_ok (b : List Int) (i h n : Int) (hb : b.length < 1099511627776) (hi : 0 ≤ i) : ∃ r i' h', spec_l1Below.f b i h n = some (r, i', h') ∧ 0 ≤ i' ∧ 0 ≤ r ∧ (r < n ∨ n ≤ 0 ∧ r = 0) := by
  unfold spec_l1Below.f
  split
  · exact ⟨_, _, _, rfl, hi, by omega, by omega⟩
  · rename_i hn
    split
    · obtain ⟨r, i', h', e, hi', h0, h1⟩ := l1Byte_ok b i h hb hi
      rw [e]; simp only [Option.bind_some]
      rw [if_neg (by omega)]
      exact ⟨_, _, _, rfl, hi', Int.tmod_nonneg _ h0, .inl (Int.tmod_lt_of_pos _ (by omega))⟩
    · obtain ⟨r, i1, h1, e, hi1, h0, h255⟩ := l1Byte_ok b i h hb hi
      rw [e]; simp only [Option.bind_some]
      obtain ⟨r2, i2, h2, e2, hi2, h02, h2552⟩ := l1Byte_ok b i1 h1 hb hi1
      rw [e2]; simp only [Option.bind_some]
      obtain ⟨r3, i3, h3, e3, hi3, h03, h2553⟩ := l1Byte_ok b i2 h2 hb hi2
      rw [e3]; simp only [Option.bind_some]
      rw [if_neg (by omega)]
      refine ⟨_, _, _, rfl, hi3, Int.tmod_nonneg _ ?_, .inl (Int.tmod_lt_of_pos _ (by omega))⟩
      unfold wrap64; omega
theorem l1Once_ok (b : List Int) (i h n : Int) (hb : b.length < 1099511627776) (hi : 0 ≤ i) : ∃ r i' h', spec_l1Once.f b i h n = some (r, i', h') ∧ 0 ≤ i' := by
  obtain ⟨r, i', h', e, hi', h0, h1⟩ := l1Below_ok b i h n hb hi
  unfold spec_l1Once.f
  rw [e]; simp only [Option.bind_some]
  exact ⟨_, _, _, rfl, hi'⟩
theorem l1New_l0 (b : List Int) (hb : b.length < 1099511627776) : ∀ (d i : Nat) (h : Int), i + d = b.length → ∃ h', Ev (fun k => spec_l1New.l0 k b h (i : Int)) (b, 0, h') := by
  intro d
  induction d with
  | zero =>
    intro i h hd
    refine ⟨h, ev_succ ?_⟩
    simp only [spec_l1New.l0, if_neg (show ¬ ((i : Int) < (b.length : Int)) by omega)]
    exact Ev.now _
  | succ d ih =>
    intro i h hd
    by_cases h4 : (i : Int) < 4000
    · obtain ⟨h', e⟩ := ih (i + 1) _ (by omega)
      refine ⟨h', ev_succ ?_⟩
      simp only [spec_l1New.l0, if_pos (show ((i : Int) < (b.length : Int)) by omega), if_pos h4, if_pos (nn _)]
      rw [show wrap64 ((i : Int) + 1) = ((i + 1 : Nat) : Int) by unfold wrap64; omega]
      exact e
    · refine ⟨h, ev_succ ?_⟩
      simp only [spec_l1New.l0, if_pos (show ((i : Int) < (b.length : Int)) by omega), if_neg h4]
      exact Ev.now _
theorem l1New_ev (b : List Int) (hb : b.length < 1099511627776) : ∃ h', Ev (fun k => spec_l1New.f k b) (b, 0, h') := l1New_l0 b hb b.length 0 _ (by omega)
theorem laws_big_eq (b : List Int) : laws_big.f b = some (decide ((b.length : Int) > 4096)) := rfl
theorem ix2 {α : Type} {l pre t : List α} {p a : α} (h : l = (pre ++ [p]) ++ a :: t) (hl : l.length < 4611686018427387904) :
    (((pre ++ [p]).length : Int)) > 0 ∧ wrap64 (((pre ++ [p]).length : Int) - 1) = (pre.length : Int) ∧ (∀ d, l.getD pre.length d = p) ∧ (pre.length : Int) < (l.length : Int) := by
  subst h
  simp only [List.length_append, List.length_cons, List.length_nil] at *
  refine ⟨by omega, by unfold wrap64; omega, fun d => by simp [List.getD], by omega⟩
theorem ev_eq {α : Type} {f g : Nat → Option α} {r : α} (h : f = g) (k : Ev g r) : Ev f r := h ▸ k
def pHead (h : Int) : Bool := decide (0 ≤ h) && decide (h ≤ 3)
theorem spec_IsHeading_eq (h : Int) : spec_IsHeading.f h = some (pHead h) := by
  unfold spec_IsHeading.f pHead; split <;> simp <;> omega
theorem impl_IsHeading_eq (h : Int) : impl_IsHeading.f h = some (pHead h) := by
  simp only [impl_IsHeading.f, impl_isWithin_eq, Option.bind_some, pHead]
def pMeas (x : Int) : Bool := decide (-4096 ≤ x) && decide (x ≤ 4096)
theorem spec_IsMeasure_eq (x : Int) : spec_IsMeasure.f x = some (pMeas x) := by
  unfold spec_IsMeasure.f pMeas; split <;> simp <;> omega
def pMeas' (x : Int) : Bool := decide (-4096 ≤ x) && decide (x ≤ 4096)
theorem impl_IsMeasure_eq (x : Int) : impl_IsMeasure.f x = some (pMeas' x) := by
  simp only [impl_IsMeasure.f, impl_isWithin_eq, Option.bind_some, pMeas']
def pPlace (x y : Int) : Bool := (decide (-4096 ≤ x) && decide (x ≤ 4096)) && (decide (-4096 ≤ y) && decide (y ≤ 4096))
theorem spec_IsPlace_eq (x y : Int) : spec_IsPlace.f x y = some (pPlace x y) := by
  simp only [spec_IsPlace.f, spec_IsMeasure_eq, Option.bind_some, pPlace, pMeas]
  cases (decide (-4096 ≤ x) && decide (x ≤ 4096)) <;> simp
theorem impl_IsPlace_eq (x y : Int) : impl_IsPlace.f x y = some (pPlace x y) := by
  simp only [impl_IsPlace.f, impl_IsMeasure_eq, Option.bind_some, pPlace, pMeas']
  cases (decide (-4096 ≤ x) && decide (x ≤ 4096)) <;> simp
theorem l1Some_ok (b : List Int) (i h lo hi : Int) (hb : b.length < 1099511627776) (hi0 : 0 ≤ i) (h1 : lo ≤ hi) (h2 : -100000 ≤ lo) (h3 : hi ≤ 100000) : ∃ r i' h', spec_l1Some.f b i h lo hi = some (r, i', h') ∧ 0 ≤ i' ∧ lo ≤ r ∧ r ≤ hi := by
  unfold spec_l1Some.f
  obtain ⟨r, i', h', e, hi', h0, hr⟩ := l1Below_ok b i h (wrap64 ((wrap64 (hi - lo)) + 1)) hb hi0
  rw [e]; simp only [Option.bind_some]
  have : wrap64 ((wrap64 (hi - lo)) + 1) = hi - lo + 1 := by unfold wrap64; omega
  rw [this] at hr
  exact ⟨_, _, _, rfl, hi', by unfold wrap64; omega, by unfold wrap64; omega⟩
def nmC (b : Int) (i : Nat) : Bool := (decide (97 ≤ b) && decide (b ≤ 122)) || ((decide (48 ≤ b) && decide (b ≤ 57)) && !decide (i = 0))
def nmR (a : ByteArray) : Nat → Nat → Bool
  | 0, _ => decide (1 ≤ (a.size : Int)) && decide ((a.size : Int) ≤ 8)
  | d + 1, i => nmC (bt a (i : Int)) i && nmR a d (i + 1)
def pName (a : ByteArray) : Bool := nmR a a.size 0
theorem spec_IsName_l0 (a : ByteArray) (ha : a.size ≤ 9223372036854775807) : ∀ (d i : Nat), i + d = a.size → Ev (fun k => spec_IsName.l0 k a (i : Int)) (nmR a d i) := by
  intro d
  induction d with
  | zero =>
    intro i h
    refine ev_succ ?_
    simp only [spec_IsName.l0, if_neg (show ¬ ((i : Int) < (a.size : Int)) by omega), nmR]
    refine ev_ite (fun c => ?_) (fun c => ?_)
    · rw [decide_eq_true (show 1 ≤ (a.size : Int) by omega), Bool.true_and]; exact Ev.now _
    · rw [decide_eq_false (show ¬ 1 ≤ (a.size : Int) by omega), Bool.false_and]; exact Ev.now _
  | succ d ih =>
    intro i h
    have ih' := ih (i + 1) (by omega)
    refine ev_succ ?_
    simp only [spec_IsName.l0, if_pos (show ((i : Int) < (a.size : Int)) by omega), if_pos (nn _), nmR]
    rw [show wrap64 ((i : Int) + 1) = ((i + 1 : Nat) : Int) by unfold wrap64; omega]
    generalize bt a (i : Int) = b
    have hi : ((i : Int) = 0) = (i = 0) := by simp
    simp only [nmC, hi]
    by_cases h1 : 97 ≤ b <;> by_cases h2 : b ≤ 122 <;> by_cases h3 : 48 ≤ b <;> by_cases h4 : b ≤ 57 <;> by_cases h5 : i = 0 <;> first | (exfalso; omega) | skip
    all_goals simp only [ge_iff_le, h1, h2, h3, h4, h5, decide_true, decide_false, Bool.true_and, Bool.false_and, Bool.and_true, Bool.and_false, Bool.or_true, Bool.true_or, Bool.or_false, Bool.false_or, Bool.not_true, Bool.not_false, if_true, if_false]
    all_goals first | exact Ev.now _ | exact ih' | (subst h5; exact ih')
theorem spec_IsName_ev (a : ByteArray) (ha : a.size ≤ 9223372036854775807) : Ev (fun k => spec_IsName.f k a) (pName a) := spec_IsName_l0 a ha a.size 0 (by omega)
theorem impl_IsName_l0 (a : ByteArray) (ha : a.size ≤ 9223372036854775807) : ∀ (d i : Nat), i + d = a.size → Ev (fun k => impl_IsName.l0 k a (a.size : Int) (i : Int)) (nmR a d i) := by
  intro d
  induction d with
  | zero =>
    intro i h
    refine ev_succ ?_
    simp only [impl_IsName.l0, if_neg (show ¬ ((i : Int) < (a.size : Int)) by omega), nmR, impl_isWithin_eq, Option.bind_some]
    exact Ev.now _
  | succ d ih =>
    intro i h
    have ih' := ih (i + 1) (by omega)
    refine ev_succ ?_
    simp only [impl_IsName.l0, if_pos (show ((i : Int) < (a.size : Int)) by omega), if_pos (nn _), nmR]
    rw [show wrap64 ((i : Int) + 1) = ((i + 1 : Nat) : Int) by unfold wrap64; omega]
    generalize bt a (i : Int) = b
    have hi : ((i : Int) = 0) = (i = 0) := by simp
    simp only [nmC, hi, gt_iff_lt, ← Int.not_le]
    by_cases h1 : 97 ≤ b <;> by_cases h2 : b ≤ 122 <;> by_cases h3 : 48 ≤ b <;> by_cases h4 : b ≤ 57 <;> by_cases h5 : i = 0 <;> first | (exfalso; omega) | skip
    all_goals simp only [ge_iff_le, h1, h2, h3, h4, h5, not_true_eq_false, not_false_eq_true, decide_true, decide_false, Bool.true_and, Bool.false_and, Bool.and_true, Bool.and_false, Bool.or_true, Bool.true_or, Bool.or_false, Bool.false_or, Bool.not_true, Bool.not_false, if_true, if_false]
    all_goals first | exact Ev.now _ | exact ih' | (subst h5; exact ih')
theorem impl_IsName_ev (a : ByteArray) (ha : a.size ≤ 9223372036854775807) : Ev (fun k => impl_IsName.f k a) (pName a) := impl_IsName_l0 a ha a.size 0 (by omega)
theorem bl_irrefl : ∀ x, Op.bytesLess x x = false
  | [] => rfl
  | a :: x => by
    simp only [Op.bytesLess, bl_irrefl x, Bool.and_false, Bool.or_false, decide_eq_false_iff_not]
    exact UInt8.lt_irrefl a
theorem bl_tri : ∀ x y, Op.bytesLess x y = false → Op.bytesLess y x = false → x = y
  | [], [], _, _ => rfl
  | [], _ :: _, h, _ => by simp [Op.bytesLess] at h
  | _ :: _, [], _, h => by simp [Op.bytesLess] at h
  | a :: x, b :: y, h, h' => by
    simp only [Op.bytesLess, Bool.or_eq_false_iff, decide_eq_false_iff_not] at h h'
    have hab : a = b := by
      have h1 := h.1; have h2 := h'.1
      exact UInt8.le_antisymm (UInt8.not_lt.1 h2) (UInt8.not_lt.1 h1)
    subst hab
    simp only [beq_self_eq_true, Bool.true_and] at h h'
    rw [bl_tri x y h.2 h'.2]
theorem bl_trans : ∀ x y z, Op.bytesLess x y = true → Op.bytesLess y z = true → Op.bytesLess x z = true
  | _, _, [], _, h => by cases ‹List UInt8› <;> simp [Op.bytesLess] at h
  | [], _, _ :: _, _, _ => rfl
  | _ :: _, [], _ :: _, h, _ => by simp [Op.bytesLess] at h
  | a :: x, b :: y, c :: z, h, h' => by
    simp only [Op.bytesLess, Bool.or_eq_true, decide_eq_true_eq, Bool.and_eq_true, beq_iff_eq] at h h' ⊢
    rcases h with h | ⟨h, h2⟩
    · rcases h' with h' | ⟨h', h2'⟩
      · exact .inl (UInt8.lt_trans h h')
      · exact .inl (h' ▸ h)
    · rcases h' with h' | ⟨h', h2'⟩
      · exact .inl (h ▸ h')
      · exact .inr ⟨h.trans h', bl_trans x y z h2 h2'⟩
/-- The order of cues. -/
def pCmpC (a : Int) (b : ByteArray) (c : Int) (d : ByteArray) : Int :=
  if a < c then -1 else if a = c then (if Op.bytesLess b.toList d.toList = true then -1 else if b.toList = d.toList then 0 else 1) else 1
theorem l1Str_ok (b : List Int) (i h : Int) (l : List ByteArray) (hb : b.length < 1099511627776) (hi : 0 ≤ i) (hl : l ≠ []) : ∃ r i' h', spec_l1Str.f b i h l = some (r, i', h') ∧ 0 ≤ i' ∧ r ∈ l := by
  obtain ⟨r, i', h', e, hi', h0, h1⟩ := l1Below_ok b i h (l.length : Int) hb hi
  have hp : 0 < l.length := List.length_pos_iff.2 hl
  unfold spec_l1Str.f
  rw [e]; simp only [Option.bind_some]
  have hlt : r < (l.length : Int) := by omega
  rw [if_pos h0, if_pos hlt]
  refine ⟨_, _, _, rfl, hi', ?_⟩
  have h2 : r.toNat < l.length := by omega
  simp only [rdOf, List.getD_eq_getElem?_getD, List.getElem?_eq_getElem h2, Option.getD_some]
  exact List.getElem_mem _
def i16 (a lo hi : Int) : Bool := decide (lo ≤ a) && decide (a ≤ hi)
def pJet (a b c d e : Int) : Bool := i16 a (-1024) 1024 && (i16 b (-1024) 1024 && (pHead c && (i16 d 0 16 && i16 e 1 32)))
def pLineOk (n l : ByteArray) : Bool := pName l && !(l.toList == n.toList)
/-- IsDevice -/
def pDevice (n : ByteArray) (k : Int) (l : ByteArray) (a b c d e : Int) : Bool :=
  pName n && (if k = 1 then pSup e && (l.toList == ([] : List UInt8) && ((a == 0 && (b == 0)) && (c == 0 && (d == 0))))
    else if k = 2 then pLineOk n l && (pJet a b c d 1 && i16 e 0 32)
    else if k = 3 then pLineOk n l && (pPlace a b && (c == 0 && (d == 0 && (e == 0)))) else false)
theorem ev_and {c : Bool} {f : Nat → Option Bool} {b : Bool} (h : c = true → Ev f b) : Ev (fun k => if c = true then f k else some false) (c && b) := by
  cases c
  · simp only [Bool.false_eq_true, if_false, Bool.false_and]; exact Ev.now _
  · simp only [if_true, Bool.true_and]; exact h rfl
theorem so_and (c b : Bool) : (if c = true then some b else some false) = some (c && b) := by cases c <;> rfl
theorem spec_IsJet_eq (a b c d e : Int) : spec_IsJet.f a b c d e = some (pJet a b c d e) := by
  simp only [spec_IsJet.f, spec_l1In_eq, spec_IsHeading_eq, Option.bind_some, pJet, i16, so_and]
theorem spec_IsDevice_ev (n : ByteArray) (k : Int) (l : ByteArray) (a b c d e : Int) (hn : n.size ≤ 9223372036854775807) (hl : l.size ≤ 9223372036854775807) : Ev (fun q => spec_IsDevice.f q n k l a b c d e) (pDevice n k l a b c d e) := by
  have j : ∀ x : Bool, x = pLineOk n l → Ev (fun q => spec_IsDevice.j0 q x n k l a b c d e) (pDevice n k l a b c d e) := by
    intro x hx
    refine ev_succ ?_
    simp only [spec_IsDevice.j0, spec_l6Jet.f, spec_IsJet_eq, spec_l5Supply_eq, spec_IsPlace_eq, spec_l1In_eq, Option.bind_some, so_and]
    refine Ev.bind (spec_IsName_ev n hn) ?_
    rw [pDevice, hx]
    refine ev_and (fun _ => ?_)
    refine ev_ite (fun h => ?_) (fun h => ?_)
    · rw [if_pos h]; exact Ev.now _
    · rw [if_neg h]
      refine ev_ite (fun h => ?_) (fun h => ?_)
      · rw [if_pos h]; exact Ev.now _
      · rw [if_neg h]
        refine ev_ite (fun h => ?_) (fun h => ?_)
        · rw [if_pos h]; exact Ev.now _
        · rw [if_neg h]; exact Ev.now _
  unfold spec_IsDevice.f
  refine Ev.bind (spec_IsName_ev l hl) ?_
  refine ev_ite (fun h => ?_) (fun h => ?_)
  · refine j _ ?_
    rw [pLineOk, h, Bool.true_and]; rfl
  · refine j _ ?_
    rw [pLineOk, Bool.eq_false_iff.2 h, Bool.false_and]
theorem impl_IsJet_eq (a b c d e : Int) : impl_IsJet.f a b c d e = some (pJet a b c d e) := by
  simp only [impl_IsJet.f, impl_isWithin_eq, impl_IsHeading_eq, Option.bind_some, pJet, i16, so_and]
theorem impl_IsDevice_ev (n : ByteArray) (k : Int) (l : ByteArray) (a b c d e : Int) (hn : n.size ≤ 9223372036854775807) (hl : l.size ≤ 9223372036854775807) : Ev (fun q => impl_IsDevice.f q n k l a b c d e) (pDevice n k l a b c d e) := by
  simp only [impl_IsDevice.f, impl_IsJet_eq, impl_isSupply_eq, impl_IsPlace_eq, impl_isWithin_eq, Option.bind_some, so_and]
  refine Ev.bind (impl_IsName_ev n hn) ?_
  rw [pDevice]
  refine ev_and (fun _ => ?_)
  refine ev_ite (fun h => ?_) (fun h => ?_)
  · rw [if_pos h, Bool.and_comm]; exact Ev.now _
  · rw [if_neg h]
    refine ev_ite (fun h => ?_) (fun h => ?_)
    · rw [if_pos h]
      refine Ev.bind (impl_IsName_ev l hl) ?_
      rw [pLineOk, Bool.and_assoc]
      refine ev_and (fun _ => ?_)
      by_cases e : l.toList = n.toList
      · simp only [if_pos e, e, beq_self_eq_true, Bool.not_true, Bool.false_and]; exact Ev.now _
      · simp only [if_neg e, beq_eq_false_iff_ne.2 e, Bool.not_false, Bool.true_and]; exact Ev.now _
    · rw [if_neg h]
      refine ev_ite (fun h => ?_) (fun h => ?_)
      · rw [if_pos h]
        rw [show (pLineOk n l && (pPlace a b && (c == 0 && (d == 0 && (e == 0))))) = ((c == 0 && (d == 0 && (e == 0))) && (pLineOk n l && pPlace a b)) by cases pLineOk n l <;> cases pPlace a b <;> cases (c == 0 && (d == 0 && (e == 0))) <;> rfl]
        refine ev_and (fun _ => ?_)
        refine Ev.bind (impl_IsName_ev l hl) ?_
        rw [pLineOk, Bool.and_assoc]
        refine ev_and (fun _ => ?_)
        by_cases e : l.toList = n.toList
        · simp only [if_pos e, e, beq_self_eq_true, Bool.not_true, Bool.false_and]; exact Ev.now _
        · simp only [if_neg e, beq_eq_false_iff_ne.2 e, Bool.not_false, Bool.true_and]; exact Ev.now _
      · rw [if_neg h]; exact Ev.now _
abbrev De := S30
def dIdx (x : ByteArray) : List De → Int → Int
  | [], _ => -1
  | a :: t, i => if a.f0.toList = x.toList then i else dIdx x t (i + 1)
/-- FindDevice -/
def pFind (l : List De) (x : ByteArray) : Int := dIdx x l 0
theorem dIdx_range (x : ByteArray) : ∀ (l : List De) (i : Int), dIdx x l i = -1 ∨ (i ≤ dIdx x l i ∧ dIdx x l i < i + l.length)
  | [], _ => .inl rfl
  | a :: t, i => by
    rw [dIdx]
    by_cases c : a.f0.toList = x.toList
    · rw [if_pos c]; right; simp; omega
    · rw [if_neg c]
      rcases dIdx_range x t (i + 1) with h | h
      · exact .inl h
      · right; simp at h ⊢; omega
theorem pFind_range (l : List De) (x : ByteArray) : pFind l x = -1 ∨ (0 ≤ pFind l x ∧ pFind l x < l.length) := by
  have := dIdx_range x l 0
  unfold pFind; omega
theorem spec_FindDevice_l0 (l : List De) (x : ByteArray) (hl : l.length < 1099511627776) : ∀ (suf pre : List De), l = pre ++ suf →
    Ev (fun k => spec_FindDevice.l0 k x l (l.length : Int) (pre.length : Int)) (dIdx x suf (pre.length : Int)) := by
  intro suf
  induction suf with
  | nil =>
    intro pre h
    refine ev_succ ?_
    simp only [spec_FindDevice.l0, if_neg (ixn h)]
    exact Ev.now _
  | cons a s ih =>
    intro pre h
    obtain ⟨h1, h2, h3, h4⟩ := ix h (by omega)
    refine ev_succ ?_
    simp only [spec_FindDevice.l0, if_pos h1, if_pos (nn _), Int.toNat_natCast, rd_T30, h2, h3]
    rw [dIdx]
    refine ev_ite (fun c => ?_) (fun c => ?_)
    · rw [if_pos c]; exact Ev.now _
    · rw [if_neg c]
      have := ih _ h4
      rwa [show ((pre ++ [a]).length : Int) = (pre.length : Int) + 1 by simp] at this ⊢
theorem spec_FindDevice_ev (l : List De) (x : ByteArray) (hl : l.length < 1099511627776) : Ev (fun k => spec_FindDevice.f k l x) (pFind l x) := spec_FindDevice_l0 l x hl l [] rfl
theorem impl_FindDevice_l0 (l : List De) (x : ByteArray) (hl : l.length < 1099511627776) : ∀ (suf pre : List De), l = pre ++ suf →
    Ev (fun k => impl_FindDevice.l0 k x l (l.length : Int) (pre.length : Int)) (dIdx x suf (pre.length : Int)) := by
  intro suf
  induction suf with
  | nil =>
    intro pre h
    refine ev_succ ?_
    simp only [impl_FindDevice.l0, if_neg (ixn h)]
    exact Ev.now _
  | cons a s ih =>
    intro pre h
    obtain ⟨h1, h2, h3, h4⟩ := ix h (by omega)
    refine ev_succ ?_
    simp only [impl_FindDevice.l0, if_pos h1, if_pos (nn _), Int.toNat_natCast, rd_T30, h2, h3]
    rw [dIdx]
    refine ev_ite (fun c => ?_) (fun c => ?_)
    · rw [if_pos c]; exact Ev.now _
    · rw [if_neg c]
      have := ih _ h4
      rwa [show ((pre ++ [a]).length : Int) = (pre.length : Int) + 1 by simp] at this ⊢
theorem impl_FindDevice_ev (l : List De) (x : ByteArray) (hl : l.length < 1099511627776) : Ev (fun k => impl_FindDevice.f k l x) (pFind l x) := impl_FindDevice_l0 l x hl l [] rfl
def szD (l : List De) : Prop := ∀ c ∈ l, c.f0.size ≤ 9223372036854775807 ∧ c.f2.size ≤ 9223372036854775807
theorem szD_mid {l pre t : List De} {a : De} (h : szD l) (e : l = pre ++ a :: t) : a.f0.size ≤ 9223372036854775807 ∧ a.f2.size ≤ 9223372036854775807 := h a (by simp [e])
def dOk (d : De) : Bool := pDevice d.f0 d.f1 d.f2 d.f3.f0 d.f3.f1 d.f4 d.f5 d.f6
/-- The line of a device names such a device as it has to. -/
def pHung (l : List De) (d : De) : Bool := if d.f1 = 1 then true else if 0 ≤ pFind l d.f2 then ((l.getD (pFind l d.f2).toNat z30).f1 == d.f1 - 1) else false
theorem dOk_kind {d : De} (h : dOk d = true) : d.f1 = 1 ∨ d.f1 = 2 ∨ d.f1 = 3 := by
  unfold dOk pDevice at h
  by_cases h1 : d.f1 = 1
  · exact .inl h1
  · by_cases h2 : d.f1 = 2
    · exact .inr (.inl h2)
    · by_cases h3 : d.f1 = 3
      · exact .inr (.inr h3)
      · rw [if_neg h1, if_neg h2, if_neg h3, Bool.and_false] at h; cases h
def gRest (l : List De) : De → List De → Bool
  | _, [] => true
  | p, q :: t => dOk q && (Op.bytesLess p.f0.toList q.f0.toList && (pHung l q && gRest l q t))
def gAll (l : List De) : List De → Bool
  | [] => true
  | q :: t => dOk q && (pHung l q && gRest l q t)
/-- IsRig -/
def pRig (l : List De) : Bool := gAll l l && decide ((l.length : Int) ≤ 8)
theorem pRig_len {l : List De} (h : pRig l = true) : l.length ≤ 8 := by
  simp only [pRig, Bool.and_eq_true, decide_eq_true_eq] at h; omega
theorem spec_l6Hangs_ev (l : List De) (d : De) (hl : l.length < 1099511627776) (hd : dOk d = true) : Ev (fun k => spec_l6Hangs.f k l d.f0 d.f1 d.f2 d.f3.f0 d.f3.f1 d.f4 d.f5 d.f6) (pHung l d) := by
  unfold spec_l6Hangs.f
  refine Ev.bind (spec_FindDevice_ev l d.f2 hl) ?_
  unfold pHung
  rcases dOk_kind hd with h | h | h
  · simp only [h, if_neg (show ¬ (1 : Int) = 2 by omega), if_neg (show ¬ (1 : Int) = 3 by omega), if_true]; exact Ev.now _
  · simp only [h, if_true, if_neg (show ¬ (2 : Int) = 1 by omega)]
    refine ev_ite (fun c => ?_) (fun c => ?_)
    · have := pFind_range l d.f2
      simp only [if_pos (show 0 ≤ pFind l d.f2 from c), if_pos (show pFind l d.f2 < (l.length : Int) by omega), rd_T30]
      exact Ev.now _
    · rw [if_neg (show ¬ 0 ≤ pFind l d.f2 from c)]; exact Ev.now _
  · simp only [h, if_true, if_neg (show ¬ (3 : Int) = 1 by omega), if_neg (show ¬ (3 : Int) = 2 by omega)]
    refine ev_ite (fun c => ?_) (fun c => ?_)
    · have := pFind_range l d.f2
      simp only [if_pos (show 0 ≤ pFind l d.f2 from c), if_pos (show pFind l d.f2 < (l.length : Int) by omega), rd_T30]
      exact Ev.now _
    · rw [if_neg (show ¬ 0 ≤ pFind l d.f2 from c)]; exact Ev.now _
theorem impl_isHung_ev (l : List De) (d : De) (hl : l.length < 1099511627776) (hd : dOk d = true) : Ev (fun k => impl_isHung.f k l d.f0 d.f1 d.f2 d.f3.f0 d.f3.f1 d.f4 d.f5 d.f6) (pHung l d) := by
  unfold impl_isHung.f pHung
  refine ev_ite (fun c => ?_) (fun c => ?_)
  · rw [if_pos c]; exact Ev.now _
  · rw [if_neg c]
    refine Ev.bind (impl_FindDevice_ev l d.f2 hl) ?_
    have hk := dOk_kind hd
    have hw : wrap64 (d.f1 - 1) = d.f1 - 1 := by unfold wrap64; omega
    rw [hw]
    refine ev_ite (fun c => ?_) (fun c => ?_)
    · have := pFind_range l d.f2
      simp only [if_pos (show 0 ≤ pFind l d.f2 from c), if_pos (show pFind l d.f2 < (l.length : Int) by omega), rd_T30]
      exact Ev.now _
    · rw [if_neg (show ¬ 0 ≤ pFind l d.f2 from c)]; exact Ev.now _
theorem spec_IsRig_l0 (l : List De) (hl : l.length < 1099511627776) (hz : szD l) : ∀ (suf pre : List De) (p : De), l = (pre ++ [p]) ++ suf →
    Ev (fun k => spec_IsRig.l0 k l l (l.length : Int) ((pre ++ [p]).length : Int)) (gRest l p suf && decide ((l.length : Int) ≤ 8)) := by
  intro suf
  induction suf with
  | nil =>
    intro pre p h
    refine ev_succ ?_
    simp only [spec_IsRig.l0, if_neg (ixn h), gRest, Bool.true_and]
    exact Ev.now _
  | cons a t ih =>
    intro pre p h
    obtain ⟨h1, h2, h3, h4⟩ := ix h (by omega)
    obtain ⟨h5, h6, h7, h8⟩ := ix2 h (by omega)
    have hza := szD_mid hz h
    refine ev_succ ?_
    simp only [spec_IsRig.l0, if_pos h1, if_pos (nn _), Int.toNat_natCast, rd_T30, h2, h3, h6, h7, if_pos h5, if_pos h8]
    rw [gRest]
    refine Ev.bind (spec_IsDevice_ev _ _ _ _ _ _ _ _ hza.1 hza.2) ?_
    change Ev (fun k => if dOk a = true then _ else _) _
    refine ev_ite (fun c1 => ?_) (fun c1 => ?_)
    · rw [c1, Bool.true_and]
      refine ev_ite (fun c3 => ?_) (fun c3 => ?_)
      · rw [c3, Bool.true_and]
        refine Ev.bind (spec_l6Hangs_ev l a hl c1) ?_
        refine ev_ite (fun c4 => ?_) (fun c4 => ?_)
        · rw [c4, Bool.true_and]; exact ih (pre ++ [p]) a h4
        · rw [Bool.eq_false_iff.2 c4, Bool.false_and, Bool.false_and]; exact Ev.now _
      · rw [Bool.eq_false_iff.2 c3, Bool.false_and, Bool.false_and]; exact Ev.now _
    · rw [Bool.eq_false_iff.2 c1, Bool.false_and, Bool.false_and]; exact Ev.now _
theorem spec_IsRig_ev (l : List De) (hl : l.length < 1099511627776) (hz : szD l) : Ev (fun k => spec_IsRig.f k l) (pRig l) := by
  unfold spec_IsRig.f pRig
  refine ev_succ ?_
  cases l with
  | nil =>
    simp only [spec_IsRig.l0]
    exact Ev.now _
  | cons a t =>
    obtain ⟨h1, h2, h3, h4⟩ := ix (l := a :: t) (pre := []) rfl (by omega)
    have hza := szD_mid (pre := []) hz rfl
    simp only [List.length_nil, Int.natCast_zero] at h1 h2 h3
    simp only [spec_IsRig.l0, if_pos h1, if_pos (show (0 : Int) ≤ 0 by omega), Int.toNat_zero, rd_T30, h2, h3, if_neg (show ¬ ((0 : Int) > 0) by omega)]
    rw [gAll]
    refine Ev.bind (spec_IsDevice_ev _ _ _ _ _ _ _ _ hza.1 hza.2) ?_
    change Ev (fun k => if dOk a = true then _ else _) _
    refine ev_ite (fun c1 => ?_) (fun c1 => ?_)
    · rw [c1, Bool.true_and]
      refine Ev.bind (spec_l6Hangs_ev (a :: t) a hl c1) ?_
      refine ev_ite (fun c4 => ?_) (fun c4 => ?_)
      · rw [c4, Bool.true_and]; exact spec_IsRig_l0 (a :: t) hl hz t [] a rfl
      · rw [Bool.eq_false_iff.2 c4, Bool.false_and, Bool.false_and]; exact Ev.now _
    · rw [Bool.eq_false_iff.2 c1, Bool.false_and, Bool.false_and]; exact Ev.now _
theorem impl_IsRig_l0 (l : List De) (hl : l.length < 1099511627776) (hz : szD l) : ∀ (suf pre : List De) (p : De), l = (pre ++ [p]) ++ suf →
    Ev (fun k => impl_IsRig.l0 k l l (l.length : Int) ((pre ++ [p]).length : Int)) (gRest l p suf) := by
  intro suf
  induction suf with
  | nil =>
    intro pre p h
    refine ev_succ ?_
    simp only [impl_IsRig.l0, if_neg (ixn h), gRest]
    exact Ev.now _
  | cons a t ih =>
    intro pre p h
    obtain ⟨h1, h2, h3, h4⟩ := ix h (by omega)
    obtain ⟨h5, h6, h7, h8⟩ := ix2 h (by omega)
    have hza := szD_mid hz h
    refine ev_succ ?_
    simp only [impl_IsRig.l0, if_pos h1, if_pos (nn _), Int.toNat_natCast, rd_T30, h2, h3, h6, h7, if_pos h5, if_pos h8]
    rw [gRest]
    refine Ev.bind (impl_IsDevice_ev _ _ _ _ _ _ _ _ hza.1 hza.2) ?_
    change Ev (fun k => if dOk a = true then _ else _) _
    refine ev_ite (fun c1 => ?_) (fun c1 => ?_)
    · rw [c1, Bool.true_and]
      refine ev_ite (fun c3 => ?_) (fun c3 => ?_)
      · rw [c3, Bool.true_and]
        refine Ev.bind (impl_isHung_ev l a hl c1) ?_
        refine ev_ite (fun c4 => ?_) (fun c4 => ?_)
        · rw [c4, Bool.true_and]; exact ih (pre ++ [p]) a h4
        · rw [Bool.eq_false_iff.2 c4, Bool.false_and]; exact Ev.now _
      · rw [Bool.eq_false_iff.2 c3, Bool.false_and]; exact Ev.now _
    · rw [Bool.eq_false_iff.2 c1, Bool.false_and]; exact Ev.now _
theorem impl_IsRig_ev (l : List De) (hl : l.length < 1099511627776) (hz : szD l) : Ev (fun k => impl_IsRig.f k l) (pRig l) := by
  unfold impl_IsRig.f pRig
  refine ev_ite (fun c => ?_) (fun c => ?_)
  · rw [decide_eq_false (by omega), Bool.and_false]; exact Ev.now _
  rw [decide_eq_true (by omega), Bool.and_true]
  refine ev_succ ?_
  cases l with
  | nil =>
    simp only [impl_IsRig.l0]
    exact Ev.now _
  | cons a t =>
    obtain ⟨h1, h2, h3, h4⟩ := ix (l := a :: t) (pre := []) rfl (by omega)
    have hza := szD_mid (pre := []) hz rfl
    simp only [List.length_nil, Int.natCast_zero] at h1 h2 h3
    simp only [impl_IsRig.l0, if_pos h1, if_pos (show (0 : Int) ≤ 0 by omega), Int.toNat_zero, rd_T30, h2, h3, if_neg (show ¬ ((0 : Int) > 0) by omega)]
    rw [gAll]
    refine Ev.bind (impl_IsDevice_ev _ _ _ _ _ _ _ _ hza.1 hza.2) ?_
    change Ev (fun k => if dOk a = true then _ else _) _
    refine ev_ite (fun c1 => ?_) (fun c1 => ?_)
    · rw [c1, Bool.true_and]
      refine Ev.bind (impl_isHung_ev (a :: t) a hl c1) ?_
      refine ev_ite (fun c4 => ?_) (fun c4 => ?_)
      · rw [c4, Bool.true_and]; exact impl_IsRig_l0 (a :: t) hl hz t [] a rfl
      · rw [Bool.eq_false_iff.2 c4, Bool.false_and]; exact Ev.now _
    · rw [Bool.eq_false_iff.2 c1, Bool.false_and]; exact Ev.now _
/-- SameLine -/
def pSameLine (l : List De) (x y : ByteArray) : Bool :=
  if pRig l = true then (if 0 ≤ pFind l x then (if 0 ≤ pFind l y then (if ((l.getD (pFind l x).toNat z30).f2).toList = ([] : List UInt8) then false
    else ((l.getD (pFind l x).toNat z30).f2.toList == (l.getD (pFind l y).toNat z30).f2.toList)) else false) else false) else false
theorem impl_SameLine_ev (l : List De) (x y : ByteArray) (hl : l.length < 1099511627776) (hz : szD l) : Ev (fun k => impl_SameLine.f k l x y) (pSameLine l x y) := by
  unfold impl_SameLine.f pSameLine
  refine Ev.bind (impl_FindDevice_ev l x hl) ?_
  refine Ev.bind (impl_FindDevice_ev l y hl) ?_
  refine Ev.bind (impl_IsRig_ev l hl hz) ?_
  have hx := pFind_range l x
  have hy := pFind_range l y
  refine ev_ite (fun h => ?_) (fun h => ?_)
  · rw [if_pos h]
    refine ev_ite (fun h1 => ?_) (fun h1 => ?_)
    · simp only [if_pos (show 0 ≤ pFind l x from h1)]
      refine ev_ite (fun h2 => ?_) (fun h2 => ?_)
      · simp only [if_pos (show 0 ≤ pFind l y from h2), if_pos (show pFind l x < (l.length : Int) by omega), if_pos (show pFind l y < (l.length : Int) by omega), rd_T30]
        refine ev_ite (fun h3 => ?_) (fun h3 => ?_)
        · rw [if_pos h3]; exact Ev.now _
        · rw [if_neg h3]; exact Ev.now _
      · rw [if_neg (show ¬ 0 ≤ pFind l y from h2)]; exact Ev.now _
    · rw [if_neg (show ¬ 0 ≤ pFind l x from h1)]; exact Ev.now _
  · rw [if_neg h]; exact Ev.now _
theorem gRest_mem (l : List De) : ∀ (t : List De) (p : De), gRest l p t = true → ∀ d ∈ t, dOk d = true ∧ pHung l d = true
  | [], _, _, d, hd => by cases hd
  | q :: t, p, h, d, hd => by
    simp only [gRest, Bool.and_eq_true] at h
    cases hd with
    | head => exact ⟨h.1, h.2.2.1⟩
    | tail _ hd => exact gRest_mem l t q h.2.2.2 d hd
theorem pRig_mem {l : List De} (h : pRig l = true) : ∀ d ∈ l, dOk d = true ∧ pHung l d = true := by
  simp only [pRig, Bool.and_eq_true] at h
  have h := h.1
  intro d hd
  cases l with
  | nil => cases hd
  | cons q t =>
    simp only [gAll, Bool.and_eq_true] at h
    cases hd with
    | head => exact ⟨h.1, h.2.1⟩
    | tail _ hd => exact gRest_mem (q :: t) t q h.2.2 d hd
theorem nmName_ne {a : ByteArray} (h : pName a = true) : a.toList ≠ [] := by
  intro e
  have hs : a.size = 0 := by
    have : a.toList.length = a.size := by rw [ByteArray.toList_eq, Array.length_toList]; rfl
    rw [e] at this; simpa using this.symm
  rw [pName, hs, nmR, hs] at h
  simp at h
theorem dOk_line {d : De} (h : dOk d = true) : (d.f1 = 1 ↔ d.f2.toList = []) := by
  have hk := dOk_kind h
  unfold dOk pDevice at h
  simp only [Bool.and_eq_true] at h
  constructor
  · intro h1
    have h2 := h.2
    rw [if_pos h1] at h2
    simp only [Bool.and_eq_true, beq_iff_eq] at h2
    exact h2.2.1
  · intro e
    by_cases h1 : d.f1 = 1
    · exact h1
    · have h2 := h.2
      rw [if_neg h1] at h2
      exfalso
      by_cases h3 : d.f1 = 2
      · rw [if_pos h3] at h2
        simp only [pLineOk, Bool.and_eq_true] at h2
        exact nmName_ne h2.1.1 e
      · rw [if_neg h3, if_pos (by omega)] at h2
        simp only [pLineOk, Bool.and_eq_true] at h2
        exact nmName_ne h2.1.1 e
def pPumpN (l : List De) : Nat → Int → ByteArray
  | 0, _ => ⟨#[]⟩
  | n + 1, i => if (l.getD i.toNat z30).f1 = 1 then (l.getD i.toNat z30).f0 else pPumpN l n (pFind l (l.getD i.toNat z30).f2)
/-- PumpOf -/
def pPump (l : List De) (x : ByteArray) : ByteArray := if pRig l = true then (if pFind l x < 0 then ⟨#[]⟩ else pPumpN l 3 (pFind l x)) else ⟨#[]⟩
theorem pFind_mem {l : List De} {i : Int} (h0 : 0 ≤ i) (h1 : i < l.length) : l.getD i.toNat z30 ∈ l := by
  have h2 : i.toNat < l.length := by omega
  rw [List.getD_eq_getElem?_getD, List.getElem?_eq_getElem h2, Option.getD_some]; exact List.getElem_mem _
theorem pHung_step {l : List De} {d : De} (h : pHung l d = true) (h1 : ¬ d.f1 = 1) : 0 ≤ pFind l d.f2 ∧ (l.getD (pFind l d.f2).toNat z30).f1 = d.f1 - 1 := by
  unfold pHung at h
  rw [if_neg h1] at h
  by_cases c : 0 ≤ pFind l d.f2
  · rw [if_pos c] at h; exact ⟨c, by simpa using h⟩
  · rw [if_neg c] at h; cases h
theorem impl_PumpOf_l0 (l : List De) (hr : pRig l = true) : ∀ (n : Nat) (i : Int), 0 ≤ i → i < l.length → (l.getD i.toNat z30).f1 ≤ n →
    Ev (fun k => impl_PumpOf.l0 k l i) (pPumpN l n i) := by
  have hl : l.length < 1099511627776 := by have := pRig_len hr; omega
  intro n
  induction n with
  | zero =>
    intro i h0 h1 hk
    have := dOk_kind (pRig_mem hr _ (pFind_mem h0 h1)).1
    omega
  | succ n ih =>
    intro i h0 h1 hk
    obtain ⟨hd, hh⟩ := pRig_mem hr _ (pFind_mem h0 h1)
    have hln := dOk_line hd
    refine ev_succ ?_
    simp only [impl_PumpOf.l0, if_pos h0, if_pos h1, rd_T30, pPumpN]
    refine ev_ite (fun c => ?_) (fun c => ?_)
    · rw [if_pos (hln.2 c)]; exact Ev.now _
    · have c' : ¬ (l.getD i.toNat z30).f1 = 1 := fun e => c (hln.1 e)
      rw [if_neg c']
      obtain ⟨s1, s2⟩ := pHung_step hh c'
      refine Ev.bind (impl_FindDevice_ev l _ hl) ?_
      have := pFind_range l (l.getD i.toNat z30).f2
      exact ih _ s1 (by omega) (by omega)
theorem impl_PumpOf_ev (l : List De) (x : ByteArray) (hl : l.length < 1099511627776) (hz : szD l) : Ev (fun k => impl_PumpOf.f k l x) (pPump l x) := by
  have j1 : Ev (fun k => impl_PumpOf.j0 k l (pFind l x) true) (⟨#[]⟩ : ByteArray) := by
    refine ev_succ ?_
    simp only [impl_PumpOf.j0, if_true]; exact Ev.now _
  unfold impl_PumpOf.f pPump
  refine Ev.bind (impl_FindDevice_ev l x hl) ?_
  refine Ev.bind (impl_IsRig_ev l hl hz) ?_
  refine ev_ite (fun h => ?_) (fun h => ?_)
  · rw [if_pos h]
    by_cases c : pFind l x < 0
    · rw [if_pos c]; simpa only [decide_eq_true c] using j1
    · rw [if_neg c]
      refine ev_succ ?_
      simp only [impl_PumpOf.j0, decide_eq_false c, Bool.false_eq_true, if_false]
      have hx := pFind_range l x
      have hm := pFind_mem (l := l) (i := pFind l x) (by omega) (by omega)
      have hk := dOk_kind (pRig_mem h _ hm).1
      exact impl_PumpOf_l0 l h 3 _ (by omega) (by omega) (by omega)
  · rw [if_neg h]; exact j1
/-- OnLine -/
def pOnLine (l : List De) (x : ByteArray) : List ByteArray := if pRig l = true ∧ ¬ x.toList = ([] : List UInt8) then (l.filter (fun d => decide (d.f2.toList = x.toList))).map (fun d => d.f0) else []
theorem impl_OnLine_l0 (l : List De) (x : ByteArray) (hl : l.length < 1099511627776) : ∀ (suf pre : List De) (out : List ByteArray), l = pre ++ suf → out.length ≤ pre.length →
    Ev (fun k => impl_OnLine.l0 k x out l (l.length : Int) (pre.length : Int)) (out ++ (suf.filter (fun d => decide (d.f2.toList = x.toList))).map (fun d => d.f0)) := by
  intro suf
  induction suf with
  | nil =>
    intro pre out h _
    refine ev_succ ?_
    simp only [impl_OnLine.l0, if_neg (ixn h)]
    simpa using Ev.now out
  | cons a s ih =>
    intro pre out h ho
    obtain ⟨h1, h2, h3, h4⟩ := ix h (by omega)
    refine ev_succ ?_
    simp only [impl_OnLine.l0, if_pos h1, if_pos (nn _), Int.toNat_natCast, rd_T30, h2, h3]
    refine ev_ite (fun e => ?_) (fun e => ?_)
    · simp only [if_pos (show out.length < 8796093022208 by omega)]
      have := ih (pre ++ [a]) (out ++ [a.f0]) h4 (by simp; omega)
      rw [List.filter_cons_of_pos (by simpa using e)]
      simpa using this
    · have := ih (pre ++ [a]) out h4 (by simp; omega)
      rw [List.filter_cons_of_neg (by simpa using e)]
      exact this
theorem impl_OnLine_ev (l : List De) (x : ByteArray) (hl : l.length < 1099511627776) (hz : szD l) : Ev (fun k => impl_OnLine.f k l x) (pOnLine l x) := by
  have j1 : Ev (fun k => impl_OnLine.j0 k l x [] true) [] := by
    refine ev_succ ?_
    simp only [impl_OnLine.j0, if_true]; exact Ev.now _
  simp only [impl_OnLine.f, Option.bind_some, pOnLine]
  refine Ev.bind (impl_IsRig_ev l hl hz) ?_
  refine ev_ite (fun c => ?_) (fun c => ?_)
  · by_cases d : x.toList = ([] : List UInt8)
    · rw [if_neg (fun e => e.2 d)]
      simpa only [d, beq_self_eq_true] using j1
    · rw [if_pos ⟨c, d⟩, beq_eq_false_iff_ne.2 d]
      refine ev_succ ?_
      simp only [impl_OnLine.j0, Bool.false_eq_true, if_false]
      exact impl_OnLine_l0 l x hl l [] [] rfl (by simp)
  · rw [if_neg (fun e => c e.1)]; exact j1
theorem spec_l6Copies_eq (l : List De) (hl : l.length < 1099511627776) : spec_l6Copies.f l = some l := by
  simp only [spec_l6Copies.f, Option.bind_some, List.length_nil, if_pos (show 0 + l.length < 1759218604441 by omega), List.nil_append]
def dPos (x : ByteArray) : List De → Nat
  | [] => 0
  | d :: t => if Op.bytesLess d.f0.toList x.toList = true then dPos x t + 1 else 0
theorem dPos_le (x : ByteArray) : ∀ l, dPos x l ≤ l.length
  | [] => Nat.le_refl _
  | d :: t => by
    unfold dPos
    split
    · have := dPos_le x t; simp; omega
    · omega
def sIns (c : De) : List De → List De
  | [] => [c]
  | d :: t => if Op.bytesLess c.f0.toList d.f0.toList = true then c :: d :: t else d :: sIns c t
theorem sIns_eq (c : De) : ∀ l : List De, (∀ d ∈ l, d.f0.toList ≠ c.f0.toList) → sIns c l = l.take (dPos c.f0 l) ++ [c] ++ l.drop (dPos c.f0 l)
  | [], _ => rfl
  | d :: t, h => by
    have hd := h d (by simp)
    have ih := sIns_eq c t (fun x hx => h x (by simp [hx]))
    unfold sIns dPos
    by_cases h1 : Op.bytesLess d.f0.toList c.f0.toList = true
    · have h2 : ¬ Op.bytesLess c.f0.toList d.f0.toList = true := fun h2 => by
        have := bl_trans _ _ _ h1 h2
        rw [bl_irrefl] at this; cases this
      rw [if_neg h2, if_pos h1, ih]; simp
    · have h2 : Op.bytesLess c.f0.toList d.f0.toList = true := by
        cases hb : Op.bytesLess c.f0.toList d.f0.toList
        · exact absurd (bl_tri _ _ (Bool.eq_false_iff.2 h1) hb) hd
        · rfl
      rw [if_pos h2, if_neg h1]; simp
theorem dIdx_ne (x : ByteArray) : ∀ (l : List De) (i : Int), 0 ≤ i → ¬ dIdx x l i ≥ 0 → ∀ d ∈ l, d.f0.toList ≠ x.toList
  | [], _, _, _, d, hd => by cases hd
  | a :: t, i, h0, h, d, hd => by
    rw [dIdx] at h
    by_cases c : a.f0.toList = x.toList
    · rw [if_pos c] at h; exact absurd h0 h
    · rw [if_neg c] at h
      cases hd with
      | head => exact c
      | tail _ hd => exact dIdx_ne x t (i + 1) (by omega) h d hd
/-- AddDevice -/
def pAddD (l : List De) (c : De) : List De × Bool :=
  if pRig l = true ∧ dOk c = true ∧ ¬ pFind l c.f0 ≥ 0 ∧ ¬ (l.length : Int) = 8 ∧ pHung l c = true then (l.take (dPos c.f0 l) ++ [c] ++ l.drop (dPos c.f0 l), true) else (l, false)
theorem spec_AddDevice_l1 (l : List De) (c : De) (hl : l.length < 1099511627776) : ∀ (suf pre out : List De), l = pre ++ suf → out.length ≤ pre.length + 1 →
    Ev (fun k => spec_AddDevice.l0 k out true l (l.length : Int) (pre.length : Int) c.f0 c.f1 c.f2 c.f3.f0 c.f3.f1 c.f4 c.f5 c.f6) (out ++ suf, true) := by
  intro suf
  induction suf with
  | nil =>
    intro pre out h ho
    refine ev_succ ?_
    simp only [spec_AddDevice.l0, if_neg (ixn h), if_true, List.append_nil]
    exact Ev.now _
  | cons a s ih =>
    intro pre out h ho
    obtain ⟨h1, h2, h3, h4⟩ := ix h (by omega)
    have hll : l.length = pre.length + (s.length + 1) := by rw [h]; simp
    refine ev_succ ?_
    simp only [spec_AddDevice.l0, if_pos h1, if_pos (nn _), Int.toNat_natCast, rd_T30, h2, h3, if_true, if_pos (show out.length < 1759218604441 by omega)]
    have := ih (pre ++ [a]) (out ++ [a]) h4 (by simp; omega)
    simpa using this
theorem spec_AddDevice_l0 (l : List De) (c : De) (hl : l.length < 1099511627776) : ∀ (suf pre : List De), l = pre ++ suf →
    Ev (fun k => spec_AddDevice.l0 k pre false l (l.length : Int) (pre.length : Int) c.f0 c.f1 c.f2 c.f3.f0 c.f3.f1 c.f4 c.f5 c.f6) (pre ++ sIns c suf, true) := by
  intro suf
  induction suf with
  | nil =>
    intro pre h
    have hll : l.length = pre.length := by rw [h]; simp
    refine ev_succ ?_
    simp only [spec_AddDevice.l0, if_neg (ixn h), Bool.false_eq_true, if_false, if_pos (show pre.length < 1759218604441 by omega), sIns]
    exact Ev.now _
  | cons a s ih =>
    intro pre h
    obtain ⟨h1, h2, h3, h4⟩ := ix h (by omega)
    have hll : l.length = pre.length + (s.length + 1) := by rw [h]; simp
    refine ev_succ ?_
    simp only [spec_AddDevice.l0, if_pos h1, if_pos (nn _), Int.toNat_natCast, rd_T30, h2, h3, Bool.false_eq_true, if_false, if_pos (show pre.length < 1759218604441 by omega), Option.bind_some]
    rw [sIns]
    refine ev_ite (fun d => ?_) (fun d => ?_)
    · rw [if_pos d]
      simp only [List.length_append, List.length_singleton, if_pos (show pre.length + 1 < 1759218604441 by omega)]
      have := spec_AddDevice_l1 l c hl s (pre ++ [a]) (pre ++ [c] ++ [a]) h4 (by simp)
      simpa using this
    · rw [if_neg d]
      have := ih (pre ++ [a]) h4
      simpa using this
theorem spec_AddDevice_ev (l : List De) (c : De) (hl : l.length < 1099511627776) (hz : szD l) (hc : c.f0.size ≤ 9223372036854775807 ∧ c.f2.size ≤ 9223372036854775807) : Ev (fun k => spec_AddDevice.f k l c.f0 c.f1 c.f2 c.f3.f0 c.f3.f1 c.f4 c.f5 c.f6) (pAddD l c) := by
  have j1 : Ev (fun k => spec_AddDevice.j0 k l true c.f0 c.f1 c.f2 c.f3.f0 c.f3.f1 c.f4 c.f5 c.f6) (l, false) := by
    refine ev_succ ?_
    simp only [spec_AddDevice.j0, if_true, spec_l6Copies_eq l hl, Option.bind_some]; exact Ev.now _
  unfold spec_AddDevice.f pAddD
  refine Ev.bind (spec_IsRig_ev l hl hz) ?_
  refine ev_ite (fun h1 => ?_) (fun h1 => ?_)
  · refine Ev.bind (spec_IsDevice_ev _ _ _ _ _ _ _ _ hc.1 hc.2) ?_
    change Ev (fun k => if dOk c = true then _ else _) _
    refine ev_ite (fun h2 => ?_) (fun h2 => ?_)
    · refine Ev.bind (spec_FindDevice_ev l c.f0 hl) ?_
      refine ev_ite (fun h3 => ?_) (fun h3 => ?_)
      · rw [if_neg (fun x => x.2.2.1 h3)]; exact j1
      · refine ev_ite (fun h4 => ?_) (fun h4 => ?_)
        · rw [if_neg (fun x => x.2.2.2.1 h4)]; exact j1
        · refine Ev.bind (spec_l6Hangs_ev l c hl h2) ?_
          by_cases h5 : pHung l c = true
          · rw [if_pos ⟨h1, h2, h3, h4, h5⟩, h5]
            refine ev_succ ?_
            simp only [spec_AddDevice.j0, Bool.not_true, Bool.false_eq_true, if_false]
            have := spec_AddDevice_l0 l c hl l [] rfl
            rw [sIns_eq c l (dIdx_ne c.f0 l 0 (by omega) h3)] at this
            simpa using this
          · rw [if_neg (fun x => h5 x.2.2.2.2), Bool.eq_false_iff.2 h5]; exact j1
    · rw [if_neg (fun x => h2 x.2.1)]; exact j1
  · rw [if_neg (fun x => h1 x.1)]; exact j1
def dLt (a b : De) : Prop := Op.bytesLess a.f0.toList b.f0.toList = true
theorem gRest_iff (L : List De) : ∀ (t : List De) (p : De), gRest L p t = true ↔ (∀ d ∈ t, dOk d = true) ∧ (∀ d ∈ t, pHung L d = true) ∧ (∀ d ∈ t, dLt p d) ∧ t.Pairwise dLt
  | [], p => by simp [gRest]
  | q :: t, p => by
    simp only [gRest, Bool.and_eq_true, gRest_iff L t q, List.forall_mem_cons, List.pairwise_cons]
    constructor
    · rintro ⟨h1, h2, h3, h4, h5, h6, h7⟩
      exact ⟨⟨h1, h4⟩, ⟨h3, h5⟩, ⟨h2, fun d hd => bl_trans _ _ _ h2 (h6 d hd)⟩, h6, h7⟩
    · rintro ⟨⟨h1, h4⟩, ⟨h3, h5⟩, ⟨h2, _⟩, h6, h7⟩
      exact ⟨h1, h2, h3, h4, h5, h6, h7⟩
theorem pRig_iff (l : List De) : pRig l = true ↔ (∀ d ∈ l, dOk d = true) ∧ (∀ d ∈ l, pHung l d = true) ∧ l.Pairwise dLt ∧ l.length ≤ 8 := by
  have h : ∀ m : List De, gAll l m = true ↔ (∀ d ∈ m, dOk d = true) ∧ (∀ d ∈ m, pHung l d = true) ∧ m.Pairwise dLt := by
    intro m
    cases m with
    | nil => simp [gAll]
    | cons q t =>
      simp only [gAll, Bool.and_eq_true, gRest_iff, List.forall_mem_cons, List.pairwise_cons]
      constructor
      · rintro ⟨h1, h2, h3, h4, h5, h6⟩
        exact ⟨⟨h1, h3⟩, ⟨h2, h4⟩, h5, h6⟩
      · rintro ⟨⟨h1, h3⟩, ⟨h2, h4⟩, h5, h6⟩
        exact ⟨h1, h2, h3, h4, h5, h6⟩
  simp only [pRig, Bool.and_eq_true, h, decide_eq_true_eq]
  constructor
  · rintro ⟨⟨a, b, c⟩, d⟩; exact ⟨a, b, c, by omega⟩
  · rintro ⟨a, b, c, d⟩; exact ⟨⟨a, b, c⟩, by omega⟩
theorem dLt_irr (a : De) : ¬ dLt a a := by unfold dLt; rw [bl_irrefl]; decide
/-- One name, one device. -/
theorem name_uniq {l : List De} (hp : l.Pairwise dLt) {a b : De} (ha : a ∈ l) (hb : b ∈ l) (h : a.f0.toList = b.f0.toList) : a = b := by
  induction l with
  | nil => cases ha
  | cons q t ih =>
    obtain ⟨h1, h2⟩ := List.pairwise_cons.1 hp
    rcases List.mem_cons.1 ha with rfl | ha' <;> rcases List.mem_cons.1 hb with rfl | hb'
    · rfl
    · have := h1 b hb'; unfold dLt at this; rw [h, bl_irrefl] at this; cases this
    · have := h1 a ha'; unfold dLt at this; rw [h, bl_irrefl] at this; cases this
    · exact ih h2 ha' hb'
theorem dIdx_mid (x : ByteArray) (c : De) (B : List De) (hc : c.f0.toList = x.toList) : ∀ (A : List De) (i : Int), (∀ d ∈ A, d.f0.toList ≠ x.toList) → dIdx x (A ++ c :: B) i = i + A.length
  | [], i, _ => by simp [dIdx, hc]
  | a :: A, i, h => by
    rw [List.cons_append, dIdx, if_neg (h a (by simp)), dIdx_mid x c B hc A (i + 1) (fun d hd => h d (by simp [hd]))]
    simp; omega
theorem dIdx_spec (x : ByteArray) : ∀ (l : List De), (∀ d ∈ l, d.f0.toList ≠ x.toList) ∨ ∃ A c B, l = A ++ c :: B ∧ c.f0.toList = x.toList ∧ ∀ d ∈ A, d.f0.toList ≠ x.toList
  | [] => .inl (fun d hd => by cases hd)
  | a :: t => by
    by_cases c : a.f0.toList = x.toList
    · exact .inr ⟨[], a, t, rfl, c, fun d hd => by cases hd⟩
    · rcases dIdx_spec x t with h | ⟨A, d, B, e, h1, h2⟩
      · refine .inl (fun d hd => ?_)
        rcases List.mem_cons.1 hd with rfl | hd
        · exact c
        · exact h d hd
      · refine .inr ⟨a :: A, d, B, by rw [e]; rfl, h1, fun y hy => ?_⟩
        rcases List.mem_cons.1 hy with rfl | hy
        · exact c
        · exact h2 y hy
theorem dIdx_none (x : ByteArray) : ∀ (l : List De) (i : Int), (∀ d ∈ l, d.f0.toList ≠ x.toList) → dIdx x l i = -1
  | [], _, _ => rfl
  | a :: t, i, h => by rw [dIdx, if_neg (h a (by simp)), dIdx_none x t _ (fun d hd => h d (by simp [hd]))]
theorem pFind_at {A B : List De} {c : De} {x : ByteArray} (hc : c.f0.toList = x.toList) (h : ∀ d ∈ A, d.f0.toList ≠ x.toList) : pFind (A ++ c :: B) x = (A.length : Int) := by
  unfold pFind; rw [dIdx_mid x c B hc A 0 h]; omega
theorem pFind_none {l : List De} {x : ByteArray} (h : ∀ d ∈ l, d.f0.toList ≠ x.toList) : pFind l x = -1 := dIdx_none x l 0 h
theorem pFind_nonneg {l : List De} {x : ByteArray} : 0 ≤ pFind l x ↔ ∃ d ∈ l, d.f0.toList = x.toList := by
  rcases dIdx_spec x l with h | ⟨A, c, B, e, h1, h2⟩
  · rw [pFind_none h]
    exact ⟨fun h0 => by omega, fun ⟨d, hd, e⟩ => absurd e (h d hd)⟩
  · rw [e, pFind_at h1 h2]
    exact ⟨fun _ => ⟨c, by simp, h1⟩, fun _ => by omega⟩
theorem pHung_iff {l : List De} (hp : l.Pairwise dLt) (d : De) : pHung l d = true ↔ d.f1 = 1 ∨ ∃ e ∈ l, e.f0.toList = d.f2.toList ∧ e.f1 = d.f1 - 1 := by
  unfold pHung
  by_cases h1 : d.f1 = 1
  · rw [if_pos h1]; exact ⟨fun _ => .inl h1, fun _ => rfl⟩
  · rw [if_neg h1]
    rcases dIdx_spec d.f2 l with h | ⟨A, c, B, e, hc, hA⟩
    · rw [pFind_none h, if_neg (by omega)]
      constructor
      · intro x; cases x
      · rintro (x | ⟨y, hy, e, _⟩)
        · exact absurd x h1
        · exact absurd e (h y hy)
    · subst e
      rw [pFind_at hc hA, if_pos (by omega), Int.toNat_natCast]
      have hg : (A ++ c :: B).getD A.length z30 = c := by simp [List.getD]
      rw [hg, beq_iff_eq]
      constructor
      · intro x; exact .inr ⟨c, by simp, hc, x⟩
      · rintro (x | ⟨y, hy, e, e2⟩)
        · exact absurd x h1
        · have : y = c := name_uniq hp hy (by simp) (e.trans hc.symm)
          rw [← this]; exact e2
theorem dPos_split (c : De) : ∀ (l : List De), l.Pairwise dLt → (∀ d ∈ l, d.f0.toList ≠ c.f0.toList) → (∀ d ∈ l.take (dPos c.f0 l), dLt d c) ∧ ∀ d ∈ l.drop (dPos c.f0 l), dLt c d
  | [], _, _ => ⟨fun d hd => by simp at hd, fun d hd => by simp at hd⟩
  | a :: t, hp, hn => by
    obtain ⟨h1, h2⟩ := List.pairwise_cons.1 hp
    unfold dPos
    by_cases h : Op.bytesLess a.f0.toList c.f0.toList = true
    · rw [if_pos h]
      obtain ⟨g1, g2⟩ := dPos_split c t h2 (fun d hd => hn d (by simp [hd]))
      refine ⟨fun d hd => ?_, fun d hd => g2 d (by simpa using hd)⟩
      rw [List.take_succ_cons] at hd
      rcases List.mem_cons.1 hd with rfl | hd
      · exact h
      · exact g1 d hd
    · rw [if_neg h]
      refine ⟨fun d hd => by simp at hd, fun d hd => ?_⟩
      have hca : dLt c a := by
        unfold dLt
        cases hb : Op.bytesLess c.f0.toList a.f0.toList
        · exact absurd (bl_tri _ _ (Bool.eq_false_iff.2 h) hb) (hn a (by simp))
        · rfl
      rcases List.mem_cons.1 (by simpa using hd) with rfl | hd
      · exact hca
      · exact bl_trans _ _ _ hca (h1 d hd)
/-- What AddDevice makes of a rig is a rig. -/
theorem pAddD_rig {l : List De} (h : pRig l = true) (c : De) : pRig (pAddD l c).1 = true := by
  unfold pAddD
  split
  · rename_i hc
    obtain ⟨_, hok, hf, h8, hh⟩ := hc
    obtain ⟨a1, a2, a3, a4⟩ := (pRig_iff l).1 h
    have hn : ∀ d ∈ l, d.f0.toList ≠ c.f0.toList := fun d hd e => hf (pFind_nonneg.2 ⟨d, hd, e⟩)
    obtain ⟨g1, g2⟩ := dPos_split c l a3 hn
    have hmem : ∀ x, x ∈ l.take (dPos c.f0 l) ++ [c] ++ l.drop (dPos c.f0 l) ↔ x = c ∨ x ∈ l := fun x => by
      have : x ∈ l ↔ x ∈ l.take (dPos c.f0 l) ∨ x ∈ l.drop (dPos c.f0 l) := by
        rw [← List.mem_append, List.take_append_drop]
      rw [this]
      simp only [List.mem_append, List.mem_singleton]
      constructor
      · rintro ((x | x) | x)
        · exact .inr (.inl x)
        · exact .inl x
        · exact .inr (.inr x)
      · rintro (x | x | x)
        · exact .inl (.inr x)
        · exact .inl (.inl x)
        · exact .inr x
    have hlen : (l.take (dPos c.f0 l) ++ [c] ++ l.drop (dPos c.f0 l)).length = l.length + 1 := by
      have := dPos_le c.f0 l
      simp only [List.length_append, List.length_take, List.length_drop, List.length_singleton]; omega
    have hpw : (l.take (dPos c.f0 l) ++ [c] ++ l.drop (dPos c.f0 l)).Pairwise dLt := by
      rw [List.append_assoc, List.pairwise_append]
      refine ⟨a3.sublist (List.take_sublist _ _), ?_, ?_⟩
      · rw [List.singleton_append, List.pairwise_cons]
        exact ⟨g2, a3.sublist (List.drop_sublist _ _)⟩
      · intro x hx y hy
        rcases List.mem_append.1 hy with hy | hy
        · rw [List.mem_singleton.1 hy]; exact g1 x hx
        · exact bl_trans _ _ _ (g1 x hx) (g2 y hy)
    refine (pRig_iff _).2 ⟨fun d hd => ?_, fun d hd => ?_, hpw, ?_⟩
    · rcases (hmem d).1 hd with rfl | hd
      · exact hok
      · exact a1 d hd
    · have hl : pHung l d = true := by
        rcases (hmem d).1 hd with rfl | hd
        · exact hh
        · exact a2 d hd
      rcases (pHung_iff a3 d).1 hl with x | ⟨e, he, e1, e2⟩
      · exact (pHung_iff hpw d).2 (.inl x)
      · exact (pHung_iff hpw d).2 (.inr ⟨e, (hmem e).2 (.inr he), e1, e2⟩)
    · show (l.take (dPos c.f0 l) ++ [c] ++ l.drop (dPos c.f0 l)).length ≤ 8
      rw [hlen]; omega
  · exact h
theorem pName_size {a : ByteArray} (h : pName a = true) : 0 < a.size ∧ a.size ≤ 8 := by
  have key : ∀ (d i : Nat), i + d = a.size → nmR a d i = true → 0 < a.size ∧ a.size ≤ 8 := by
    intro d
    induction d with
    | zero => intro i hi h; simp only [nmR, Bool.and_eq_true, decide_eq_true_eq] at h; omega
    | succ d ih =>
      intro i hi h
      simp only [nmR, Bool.and_eq_true] at h
      exact ih (i + 1) (by omega) h.2
  exact key a.size 0 (by omega) h
theorem toList_nil_size {a : ByteArray} (h : a.toList = []) : a.size = 0 := by
  have e : a.toList.length = a.size := by rw [ByteArray.toList_eq, Array.length_toList]; rfl
  rw [h] at e; simpa using e.symm
theorem dOk_names {d : De} (h : dOk d = true) : (0 < d.f0.size ∧ d.f0.size ≤ 8) ∧ (d.f1 = 1 → d.f2.toList = []) ∧ (d.f1 ≠ 1 → (d.f2.toList ≠ d.f0.toList) ∧ d.f2.size ≤ 8) := by
  unfold dOk pDevice at h
  simp only [Bool.and_eq_true] at h
  obtain ⟨h0, h⟩ := h
  refine ⟨pName_size h0, fun k => ?_, fun k => ?_⟩
  · rw [if_pos k] at h
    simp only [Bool.and_eq_true, beq_iff_eq] at h
    exact h.2.1
  · rw [if_neg k] at h
    have hl : pLineOk d.f0 d.f2 = true := by
      split at h
      · simp only [Bool.and_eq_true] at h; exact h.1
      · split at h
        · simp only [Bool.and_eq_true] at h; exact h.1
        · cases h
    simp only [pLineOk, Bool.and_eq_true, Bool.not_eq_true', beq_eq_false_iff_ne] at hl
    exact ⟨hl.2, (pName_size hl.1).2⟩
theorem pRig_sz {l : List De} (h : pRig l = true) : szD l := fun c hc => by
  obtain ⟨h1, h2, h3⟩ := dOk_names (((pRig_iff l).1 h).1 c hc)
  refine ⟨by omega, ?_⟩
  by_cases k : c.f1 = 1
  · have := toList_nil_size (h2 k); omega
  · have := (h3 k).2; omega
theorem l2Draw_ok (b : List Int) (i h : Int) (hb : b.length < 1099511627776) (hi : 0 ≤ i) : ∃ x y i' h', spec_l2Draw.f b i h = some (x, y, i', h') ∧ 0 ≤ i' := by
  obtain ⟨x, i1, h1, e1, hi1, _⟩ := l1Some_ok b i h (-64) 64 hb hi (by omega) (by omega) (by omega)
  obtain ⟨y, i2, h2, e2, hi2, _⟩ := l1Some_ok b i1 h1 (-64) 64 hb hi1 (by omega) (by omega) (by omega)
  exact ⟨x, y, i2, h2, by simp only [spec_l2Draw.f, e1, e2, Option.bind_some], hi2⟩
theorem l3Draw_ok (b : List Int) (i h : Int) (hb : b.length < 1099511627776) (hi : 0 ≤ i) : ∃ x y hd t lf i' h', spec_l3Draw.f b i h = some (x, y, hd, t, lf, i', h') ∧ 0 ≤ i' := by
  obtain ⟨x, y, i1, h1, e1, hi1⟩ := l2Draw_ok b i h hb hi
  obtain ⟨hd, i2, h2, e2, hi2, _⟩ := l1Below_ok b i1 h1 4 hb hi1
  obtain ⟨t, i3, h3, e3, hi3, _⟩ := l1Below_ok b i2 h2 17 hb hi2
  obtain ⟨lf, i4, h4, e4, hi4, _⟩ := l1Some_ok b i3 h3 1 32 hb hi3 (by omega) (by omega) (by omega)
  exact ⟨x, y, hd, t, lf, i4, h4, by simp only [spec_l3Draw.f, e1, e2, e3, e4, Option.bind_some], hi4⟩
theorem l6Nozzle_ok (b : List Int) (i h : Int) (n l : ByteArray) (hb : b.length < 1099511627776) (hi : 0 ≤ i) : ∃ x y hd t m i' h', spec_l6Nozzle.f b i h n l = some (n, 2, l, x, y, hd, t, m, i', h') ∧ 0 ≤ i' := by
  obtain ⟨x, y, hd, t, lf, i1, h1, e1, hi1⟩ := l3Draw_ok b i h hb hi
  obtain ⟨m, i2, h2, e2, hi2, _⟩ := l1Some_ok b i1 h1 0 32 hb hi1 (by omega) (by omega) (by omega)
  exact ⟨x, y, hd, t, m, i2, h2, by simp only [spec_l6Nozzle.f, e1, e2, Option.bind_some], hi2⟩
/-- A rig that holds a device. -/
def gRig (l : List De) : Prop := pRig l = true ∧ l ≠ []
theorem pAddD_ge {l : List De} (c : De) (h : l ≠ []) : (pAddD l c).1 ≠ [] := by
  unfold pAddD
  split
  · simp
  · exact h
theorem pAddD_pump {l : List De} {c : De} (h : pRig l = true) (hc : dOk c = true) (h1 : c.f1 = 1) : (pAddD l c).1 ≠ [] := by
  unfold pAddD
  split
  · simp
  · rename_i hn
    intro e
    replace e : l = [] := e
    subst e
    exact hn ⟨h, hc, by rw [pFind_none (fun d hd => by cases hd)]; omega, by simp, by unfold pHung; rw [if_pos h1]⟩
theorem l6Draw_add (k0 : List De) (c : De) (h : pRig k0 = true) (hc : c.f0.size ≤ 9223372036854775807 ∧ c.f2.size ≤ 9223372036854775807) : Ev (fun k => spec_AddDevice.f k k0 c.f0 c.f1 c.f2 c.f3.f0 c.f3.f1 c.f4 c.f5 c.f6) (pAddD k0 c) :=
  spec_AddDevice_ev k0 c (by have := pRig_len h; omega) (pRig_sz h) hc
theorem l6Draw_j2 (b : List Int) (hb : b.length < 1099511627776) (l : List De) (ns : List ByteArray) (c : Bool) (i h : Int) (hi : 0 ≤ i) (hl : gRig l) (hn : c = true → ns ≠ []) (hs : ∀ x ∈ ns, x.size ≤ 1000) :
    ∃ r i' h', Ev (fun k => spec_l6Draw.j2 k l ns c b i h) (r, i', h') ∧ 0 ≤ i' ∧ gRig r := by
  cases c with
  | false => exact ⟨l, i, h, ev_succ (by simp only [spec_l6Draw.j2, Bool.false_eq_true, if_false]; exact Ev.now _), hi, hl⟩
  | true =>
    have key : ∀ L : List ByteArray, L ≠ [] → (∀ x ∈ L, x.size ≤ 1000) → ∃ r i' h', Ev (fun k => (spec_l1Str.f b i h L).bind fun bt359 => ((spec_l1Str.f b bt359.2.1 bt359.2.2 ns).bind fun bt362 => ((spec_l2Draw.f b bt362.2.1 bt362.2.2).bind fun bt365 => ((spec_AddDevice.f k l bt359.1 3 bt362.1 bt365.1 bt365.2.1 0 0 0).bind fun bt369 => (some (bt369.1, bt365.2.2.1, bt365.2.2.2)))))) (r, i', h') ∧ 0 ≤ i' ∧ gRig r := by
      intro L hL hL2
      obtain ⟨n, i1, h1, e1, hi1, hn1⟩ := l1Str_ok b i h L hb hi hL
      obtain ⟨m, i2, h2, e2, hi2, hm2⟩ := l1Str_ok b i1 h1 ns hb hi1 (hn rfl)
      obtain ⟨x, y, i3, h3, e3, hi3⟩ := l2Draw_ok b i2 h2 hb hi2
      have eq := l6Draw_add l ⟨n, 3, m, ⟨x, y⟩, 0, 0, 0⟩ hl.1 ⟨by have := hL2 n hn1; show n.size ≤ _; omega, by have := hs m hm2; show m.size ≤ _; omega⟩
      refine ⟨_, i3, h3, ?_, hi3, pAddD_rig hl.1 ⟨n, 3, m, ⟨x, y⟩, 0, 0, 0⟩, pAddD_ge _ hl.2⟩
      simp only [e1, e2, e3, Option.bind_some]
      refine Ev.bind eq ?_
      exact Ev.now _
    obtain ⟨r, i', h', e, x⟩ := key [(⟨#[108, 97, 109, 112]⟩ : ByteArray), (⟨#[122]⟩ : ByteArray)] (by simp) (by decide)
    exact ⟨r, i', h', ev_succ (by simp only [spec_l6Draw.j2, if_true]; exact e), x⟩
theorem l6Draw_l1 (b : List Int) (hb : b.length < 1099511627776) (ps ns : List ByteArray) (hp : ps ≠ []) (hps : ∀ x ∈ ps, x.size ≤ 1000) (hns : ∀ x ∈ ns, x.size ≤ 1000) (hnl : ns.length < 1000) : ∀ (suf pre : List ByteArray) (l : List De) (i h : Int), ns = pre ++ suf → 0 ≤ i → gRig l →
    ∃ r i' h', Ev (fun k => spec_l6Draw.l1 k l ps ns ns (ns.length : Int) (pre.length : Int) b i h) (r, i', h') ∧ 0 ≤ i' ∧ gRig r := by
  intro suf
  induction suf with
  | nil =>
    intro pre l i h hd hi hl
    by_cases c : (ns.length : Int) > 0
    · obtain ⟨o, i1, h1, e1, hi1⟩ := l1Once_ok b i h 2 hb hi
      obtain ⟨r, i', h', e, x⟩ := l6Draw_j2 b hb l ns o i1 h1 hi1 hl (fun _ e => by rw [e] at c; simp at c) hns
      refine ⟨r, i', h', ev_succ ?_, x⟩
      simp only [spec_l6Draw.l1, if_neg (ixn hd), if_pos c, e1, Option.bind_some]
      exact e
    · obtain ⟨r, i', h', e, x⟩ := l6Draw_j2 b hb l ns false i h hi hl (fun e => by cases e) hns
      refine ⟨r, i', h', ev_succ ?_, x⟩
      simp only [spec_l6Draw.l1, if_neg (ixn hd), if_neg c]
      exact e
  | cons a s ih =>
    intro pre l i h hd hi hl
    obtain ⟨g1, g2, g3, g4⟩ := ix hd (by omega)
    obtain ⟨p, i1, h1, e1, hi1, hp1⟩ := l1Str_ok b i h ps hb hi hp
    obtain ⟨x, y, hdg, t, m, i2, h2, e2, hi2⟩ := l6Nozzle_ok b i1 h1 a p hb hi1
    have eq := l6Draw_add l ⟨a, 2, p, ⟨x, y⟩, hdg, t, m⟩ hl.1 ⟨by have := hns a (by rw [hd]; simp); show a.size ≤ _; omega, by have := hps p hp1; show p.size ≤ _; omega⟩
    obtain ⟨r, i', h', e, z⟩ := ih (pre ++ [a]) (pAddD l ⟨a, 2, p, ⟨x, y⟩, hdg, t, m⟩).1 i2 h2 g4 hi2 ⟨pAddD_rig hl.1 _, pAddD_ge _ hl.2⟩
    refine ⟨r, i', h', ev_succ ?_, z⟩
    simp only [spec_l6Draw.l1, if_pos g1, if_pos (nn _), rdOf, Int.toNat_natCast, g2, g3, e1, e2, Option.bind_some]
    refine Ev.bind eq ?_
    exact e
theorem l6Draw_l0 (b : List Int) (hb : b.length < 1099511627776) (ps : List ByteArray) (hp : ps ≠ []) (hps : ∀ x ∈ ps, pName x = true) (hpl : ps.length < 1000) : ∀ (suf pre : List ByteArray) (l : List De) (i h : Int), ps = pre ++ suf → 0 ≤ i → pRig l = true → (pre ≠ [] → l ≠ []) →
    ∃ r i' h', Ev (fun k => spec_l6Draw.l0 k l ps ps (ps.length : Int) (pre.length : Int) b i h) (r, i', h') ∧ 0 ≤ i' ∧ gRig r := by
  have hps2 : ∀ x ∈ ps, x.size ≤ 1000 := fun x hx => by have := pName_size (hps x hx); omega
  intro suf
  induction suf with
  | nil =>
    intro pre l i h hd hi hl hne
    have key : ∀ L : List ByteArray, L.length = 4 → (∀ x ∈ L, x.size ≤ 1000) → ∃ r i' h', Ev (fun k => (some L).bind fun y325 => ((spec_l1Below.f b i h 5).bind fun bt328 => (if 0 ≤ bt328.1 then (if bt328.1 ≤ (y325.length : Int) then ((some (y325.take (bt328.1 : Int).toNat : List ByteArray)).bind fun y331 => (spec_l6Draw.l1 k l ps y331 y331 (y331.length : Int) 0 b bt328.2.1 bt328.2.2)) else (none)) else (none)))) (r, i', h') ∧ 0 ≤ i' ∧ gRig r := by
      intro L h4 hL
      obtain ⟨x, i1, h1, e1, hi1, x0, x5⟩ := l1Below_ok b i h 5 hb hi
      obtain ⟨r, i', h', e, z⟩ := l6Draw_l1 b hb ps (L.take x.toNat) hp hps2 (fun y hy => hL y (List.mem_of_mem_take hy)) (by rw [List.length_take]; omega) (L.take x.toNat) [] l i1 h1 rfl hi1 ⟨hl, hne (fun e => hp (by rw [hd, e]; rfl))⟩
      refine ⟨r, i', h', ?_, z⟩
      simp only [e1, Option.bind_some, if_pos x0, if_pos (show x ≤ (L.length : Int) by omega)]
      exact e
    obtain ⟨r, i', h', e, z⟩ := key [(⟨#[97]⟩ : ByteArray), (⟨#[98]⟩ : ByteArray), (⟨#[99]⟩ : ByteArray), (⟨#[114]⟩ : ByteArray)] rfl (by decide)
    refine ⟨r, i', h', ev_succ ?_, z⟩
    simp only [spec_l6Draw.l0, if_neg (ixn hd)]
    exact e
  | cons a s ih =>
    intro pre l i h hd hi hl _
    obtain ⟨g1, g2, g3, g4⟩ := ix hd (by omega)
    obtain ⟨x, i1, h1, e1, hi1, x0, x1⟩ := l1Below_ok b i h 80 hb hi
    have ha : pName a = true := hps a (by rw [hd]; simp)
    have eq := l6Draw_add l ⟨a, 1, (⟨#[]⟩ : ByteArray), ⟨0, 0⟩, 0, 0, x⟩ hl ⟨by have := hps2 a (by rw [hd]; simp); show a.size ≤ _; omega, by show (0 : Nat) ≤ _; omega⟩
    have hok : dOk ⟨a, 1, (⟨#[]⟩ : ByteArray), ⟨0, 0⟩, 0, 0, x⟩ = true := by
      unfold dOk pDevice
      simp only [ha, if_true, Bool.true_and, beq_self_eq_true, Bool.and_true]
      simp [pSup]; omega
    obtain ⟨r, i', h', e, z⟩ := ih (pre ++ [a]) (pAddD l ⟨a, 1, (⟨#[]⟩ : ByteArray), ⟨0, 0⟩, 0, 0, x⟩).1 i1 h1 g4 hi1 (pAddD_rig hl _) (fun _ => pAddD_pump hl hok rfl)
    refine ⟨r, i', h', ev_succ ?_, z⟩
    simp only [spec_l6Draw.l0, if_pos g1, if_pos (nn _), rdOf, Int.toNat_natCast, g2, g3, e1, Option.bind_some]
    refine Ev.bind eq ?_
    exact e
theorem l6Draw_ok (b : List Int) (i h : Int) (hb : b.length < 1099511627776) (hi : 0 ≤ i) : ∃ r i' h', Ev (fun k => spec_l6Draw.f k b i h) (r, i', h') ∧ 0 ≤ i' ∧ gRig r := by
  have key : ∀ L : List ByteArray, L.length = 2 → (∀ x ∈ L, pName x = true) → ∃ r i' h', Ev (fun k => (some L).bind fun y307 => ((spec_l1Below.f b i h 2).bind fun bt310 => (if 0 ≤ (wrap64 (1 + bt310.1)) then (if (wrap64 (1 + bt310.1)) ≤ (y307.length : Int) then ((some (y307.take ((wrap64 (1 + bt310.1)) : Int).toNat : List ByteArray)).bind fun y313 => (spec_l6Draw.l0 k ([] : List De) y313 y313 (y313.length : Int) 0 b bt310.2.1 bt310.2.2)) else (none)) else (none)))) (r, i', h') ∧ 0 ≤ i' ∧ gRig r := by
    intro L h2 hL
    obtain ⟨x, i1, h1, e1, hi1, x0, x2⟩ := l1Below_ok b i h 2 hb hi
    have w : wrap64 (1 + x) = 1 + x := by unfold wrap64; omega
    have hlen : (L.take (1 + x).toNat).length = (1 + x).toNat := by rw [List.length_take]; omega
    obtain ⟨r, i', h', e, z⟩ := l6Draw_l0 b hb (L.take (1 + x).toNat) (fun e => by rw [e] at hlen; simp at hlen; omega) (fun y hy => hL y (List.mem_of_mem_take hy)) (by omega) (L.take (1 + x).toNat) [] [] i1 h1 rfl hi1 rfl (fun h => absurd rfl h)
    refine ⟨r, i', h', ?_, z⟩
    simp only [e1, Option.bind_some, w, if_pos (show 0 ≤ 1 + x by omega), if_pos (show 1 + x ≤ (L.length : Int) by omega)]
    exact e
  exact key [(⟨#[112]⟩ : ByteArray), (⟨#[113]⟩ : ByteArray)] rfl (by
    intro x hx
    simp only [List.mem_cons, List.not_mem_nil, or_false] at hx
    rcases hx with rfl | rfl
    · rfl
    · rfl)
theorem DrawRig_ok (b : List Int) (hb : b.length < 1099511627776) : ∃ l, Ev (fun k => spec_DrawRig.f k b) l ∧ gRig l := by
  obtain ⟨h0, e0⟩ := l1New_ev b hb
  obtain ⟨l, i1, h1, e1, hi1, hl⟩ := l6Draw_ok b 0 h0 hb (by omega)
  refine ⟨l, ?_, hl⟩
  unfold spec_DrawRig.f
  refine Ev.bind e0 ?_
  refine Ev.bind e1 ?_
  exact Ev.now _
theorem laws_has_l0 (l : List ByteArray) (x : ByteArray) (hl : l.length < 1099511627776) : ∀ (suf pre : List ByteArray), l = pre ++ suf →
    Ev (fun k => laws_has.l0 k l x (pre.length : Int)) (suf.any (fun y => decide (y.toList = x.toList))) := by
  intro suf
  induction suf with
  | nil =>
    intro pre h
    refine ev_succ ?_
    simp only [laws_has.l0, if_neg (ixn h)]
    exact Ev.now _
  | cons a s ih =>
    intro pre h
    have hpl : pre.length ≤ l.length := by rw [h]; simp
    obtain ⟨h1, h2, h3, h4⟩ := ix h (by omega)
    have hr : rdOf ByteArray.empty l (pre.length : Int) = a := by
      unfold rdOf; rw [Int.toNat_natCast, h]; simp [List.getD]
    refine ev_succ ?_
    simp only [laws_has.l0, if_pos h1, if_pos (nn _), hr, h3, List.any_cons]
    refine ev_ite (fun c => ?_) (fun c => ?_)
    · rw [decide_eq_true c, Bool.true_or]; exact Ev.now _
    · rw [decide_eq_false c, Bool.false_or]; exact ih _ h4
theorem laws_has_ev (l : List ByteArray) (x : ByteArray) (hl : l.length < 1099511627776) : Ev (fun k => laws_has.f k l x) (l.any (fun y => decide (y.toList = x.toList))) := laws_has_l0 l x hl l [] rfl
theorem pFind_self {l A B : List De} {c : De} (hp : l.Pairwise dLt) (e : l = A ++ c :: B) : pFind l c.f0 = (A.length : Int) := by
  subst e
  refine pFind_at rfl (fun d hd h => ?_)
  have h1 : dLt d c := (List.pairwise_append.1 hp).2.2 d hd c (by simp)
  unfold dLt at h1; rw [h, bl_irrefl] at h1; cases h1
theorem getD_mid {A B : List De} {c z : De} : (A ++ c :: B).getD A.length z = c := by simp [List.getD]
theorem pFind_split {l : List De} {x : ByteArray} (h : 0 ≤ pFind l x) : ∃ A c B, l = A ++ c :: B ∧ c.f0.toList = x.toList ∧ pFind l x = (A.length : Int) := by
  rcases dIdx_spec x l with h1 | ⟨A, c, B, e, h1, h2⟩
  · rw [pFind_none h1] at h; omega
  · exact ⟨A, c, B, e, h1, by rw [e]; exact pFind_at h1 h2⟩
theorem dIdx_congr {x y : ByteArray} (h : x.toList = y.toList) : ∀ (l : List De) (i : Int), dIdx x l i = dIdx y l i
  | [], _ => rfl
  | a :: t, i => by rw [dIdx, dIdx, h, dIdx_congr h t]
theorem pFind_congr {x y : ByteArray} (h : x.toList = y.toList) (l : List De) : pFind l x = pFind l y := dIdx_congr h l 0
/-- The pump that a device hangs on. -/
theorem pPumpN_pump {l : List De} (hr : pRig l = true) : ∀ (n : Nat) (A B : List De) (a : De), l = A ++ a :: B → a.f1 ≤ n →
    ∃ e ∈ l, e.f1 = 1 ∧ pPumpN l n (A.length : Int) = e.f0 ∧ (a.f1 = 1 → e = a) ∧ (a.f1 = 2 → e.f0.toList = a.f2.toList) := by
  intro n
  induction n with
  | zero =>
    intro A B a h hk
    have := dOk_kind (pRig_mem hr a (by rw [h]; simp)).1
    omega
  | succ n ih =>
    intro A B a h hk
    have ha : a ∈ l := by rw [h]; simp
    have hg : l.getD (A.length : Int).toNat z30 = a := by rw [Int.toNat_natCast, h, getD_mid]
    by_cases h1 : a.f1 = 1
    · refine ⟨a, ha, h1, ?_, fun _ => rfl, fun h2 => by omega⟩
      rw [pPumpN, hg, if_pos h1]
    · obtain ⟨s1, s2⟩ := pHung_step (pRig_mem hr a ha).2 h1
      obtain ⟨A', c, B', e, hc, hf⟩ := pFind_split s1
      have hg' : l.getD (pFind l a.f2).toNat z30 = c := by rw [hf, Int.toNat_natCast, e, getD_mid]
      rw [hg'] at s2
      obtain ⟨p, hp, p1, p2, p3, p4⟩ := ih A' B' c e (by omega)
      refine ⟨p, hp, p1, ?_, fun h => absurd h h1, fun h2 => ?_⟩
      · rw [pPumpN, hg, if_neg h1, hf]; exact p2
      · have := p3 (by omega)
        rw [this]; exact hc
theorem pPump_at {l A B : List De} {a : De} (hr : pRig l = true) (e : l = A ++ a :: B) : pPump l a.f0 = pPumpN l 3 (A.length : Int) := by
  have hf := pFind_self ((pRig_iff l).1 hr).2.2.1 e
  rw [pPump, if_pos hr, hf, if_neg (by omega)]
theorem pSame_at {l A B A' B' : List De} {a b : De} (hr : pRig l = true) (e : l = A ++ a :: B) (e' : l = A' ++ b :: B') : pSameLine l a.f0 b.f0 = (if a.f2.toList = ([] : List UInt8) then false else (a.f2.toList == b.f2.toList)) := by
  have hp := ((pRig_iff l).1 hr).2.2.1
  have hfa := pFind_self hp e
  have hfb := pFind_self hp e'
  have ga : l.getD (A.length : Int).toNat z30 = a := by rw [Int.toNat_natCast, e, getD_mid]
  have gb : l.getD (A'.length : Int).toNat z30 = b := by rw [Int.toNat_natCast, e', getD_mid]
  rw [pSameLine, if_pos hr, hfa, hfb, if_pos (by omega), if_pos (by omega), ga, gb]
theorem pOnLine_has {l : List De} {a b : De} (hr : pRig l = true) (hb : b ∈ l) (ha : a.f2.toList ≠ ([] : List UInt8)) : (pOnLine l a.f2).any (fun y => decide (y.toList = b.f0.toList)) = (a.f2.toList == b.f2.toList) := by
  have hp := ((pRig_iff l).1 hr).2.2.1
  rw [pOnLine, if_pos ⟨hr, ha⟩, Bool.eq_iff_iff, beq_iff_eq, List.any_eq_true]
  constructor
  · rintro ⟨y, hy, h⟩
    obtain ⟨d, hd, rfl⟩ := List.mem_map.1 hy
    obtain ⟨h1, h2⟩ := List.mem_filter.1 hd
    have : d = b := name_uniq hp h1 hb (by simpa using h)
    rw [← this]; exact (of_decide_eq_true h2).symm
  · intro h
    exact ⟨b.f0, List.mem_map.2 ⟨b, List.mem_filter.2 ⟨hb, by simpa using h.symm⟩, rfl⟩, by simp⟩
theorem pPump_line {l A B A' B' : List De} {a b : De} (hr : pRig l = true) (e : l = A ++ a :: B) (e' : l = A' ++ b :: B') (h : a.f2.toList = b.f2.toList) (h0 : a.f2.toList ≠ ([] : List UInt8)) : pPump l a.f0 = pPump l b.f0 := by
  have ha : a ∈ l := by rw [e]; simp
  have hb : b ∈ l := by rw [e']; simp
  have ka : ¬ a.f1 = 1 := fun k => h0 ((dOk_line (pRig_mem hr a ha).1).1 k)
  have kb : ¬ b.f1 = 1 := fun k => h0 (h.trans ((dOk_line (pRig_mem hr b hb).1).1 k))
  have ga : l.getD (A.length : Int).toNat z30 = a := by rw [Int.toNat_natCast, e, getD_mid]
  have gb : l.getD (A'.length : Int).toNat z30 = b := by rw [Int.toNat_natCast, e', getD_mid]
  have e1 : pPumpN l 3 (A.length : Int) = pPumpN l 2 (pFind l a.f2) := by rw [pPumpN, ga, if_neg ka]
  have e2 : pPumpN l 3 (A'.length : Int) = pPumpN l 2 (pFind l b.f2) := by rw [pPumpN, gb, if_neg kb]
  rw [pPump_at hr e, pPump_at hr e', e1, e2, pFind_congr h]
theorem FnLines_l1 {l A B : List De} {a : De} (hr : pRig l = true) (e : l = A ++ a :: B) (hn : Ev (fun k => laws_FnLines.l0 k l (wrap64 ((A.length : Int) + 1))) true) : ∀ (suf pre : List De), l = pre ++ suf →
    Ev (fun k => laws_FnLines.l1 k l (A.length : Int) (pre.length : Int)) true := by
  have hll : l.length < 1099511627776 := by have := pRig_len hr; omega
  have hz := pRig_sz hr
  have hA : A.length < l.length := by rw [e]; simp
  have ra : l.getD A.length z30 = a := by rw [e, getD_mid]
  intro suf
  induction suf with
  | nil =>
    intro pre h
    refine ev_succ ?_
    simp only [laws_FnLines.l1, if_neg (ixn h)]
    exact hn
  | cons b s ih =>
    intro pre h
    have hpl : pre.length ≤ l.length := by rw [h]; simp
    obtain ⟨h1, h2, h3, h4⟩ := ix h (by omega)
    have next := ih _ h4
    have hbm : b ∈ l := by rw [h]; simp
    have rb : l.getD pre.length z30 = b := by rw [h, getD_mid]
    have s1 := impl_SameLine_ev l a.f0 b.f0 hll hz
    have s2 := impl_SameLine_ev l b.f0 a.f0 hll hz
    rw [pSame_at hr e h] at s1
    rw [pSame_at hr h e] at s2
    refine ev_succ ?_
    simp only [laws_FnLines.l1, if_pos h1, if_pos (nn _), if_pos (show (A.length : Int) < (l.length : Int) by omega), Int.toNat_natCast, rd_T30, ra, rb, h3]
    refine Ev.bind s1 ?_
    refine Ev.bind s2 ?_
    have o1 : (pOnLine l a.f2).length < 1099511627776 := by
      unfold pOnLine
      split
      · rw [List.length_map]; exact Nat.lt_of_le_of_lt (List.length_filter_le _ _) hll
      · simp
    have on := impl_OnLine_ev l a.f2 hll hz
    have ha := laws_has_ev (pOnLine l a.f2) b.f0 o1
    by_cases c0 : a.f2.toList = ([] : List UInt8)
    · have c2 : (if b.f2.toList = ([] : List UInt8) then false else (b.f2.toList == a.f2.toList)) = false := by
        rw [c0]
        split
        · rfl
        · rename_i hh; rw [beq_eq_false_iff_ne]; exact hh
      rw [c2]
      simp only [if_pos c0, bne_self_eq_false, Bool.false_eq_true, if_false]
      exact next
    · rw [if_neg c0]
      rw [pOnLine_has hr hbm c0] at ha
      by_cases c1 : a.f2.toList = b.f2.toList
      · have c2 : (if b.f2.toList = ([] : List UInt8) then false else (b.f2.toList == a.f2.toList)) = true := by rw [← c1, if_neg c0]; simp
        have c3 : (a.f2.toList == b.f2.toList) = true := by rw [c1]; simp
        rw [c2]
        rw [c3] at ha ⊢
        simp only [bne_self_eq_false, Bool.false_eq_true, if_false, if_true, if_neg c0]
        refine Ev.bind (impl_PumpOf_ev l a.f0 hll hz) ?_
        refine Ev.bind (impl_PumpOf_ev l b.f0 hll hz) ?_
        rw [pPump_line hr e h c1 c0]
        simp only [if_true]
        refine Ev.bind on ?_
        refine Ev.bind ha ?_
        simp only [bne_self_eq_false, Bool.false_eq_true, if_false]
        exact next
      · have c2 : (if b.f2.toList = ([] : List UInt8) then false else (b.f2.toList == a.f2.toList)) = false := by
          split
          · rfl
          · rw [beq_eq_false_iff_ne]; exact fun q => c1 q.symm
        have c3 : (a.f2.toList == b.f2.toList) = false := by rw [beq_eq_false_iff_ne]; exact c1
        rw [c2]
        rw [c3] at ha ⊢
        simp only [bne_self_eq_false, Bool.false_eq_true, if_false, if_neg c0]
        refine Ev.bind on ?_
        refine Ev.bind ha ?_
        simp only [bne_self_eq_false, Bool.false_eq_true, if_false]
        exact next
theorem FnLines_l0 {l : List De} (hr : pRig l = true) : ∀ (suf pre : List De), l = pre ++ suf → Ev (fun k => laws_FnLines.l0 k l (pre.length : Int)) true := by
  have hll : l.length < 1099511627776 := by have := pRig_len hr; omega
  have hz := pRig_sz hr
  have hp := ((pRig_iff l).1 hr).2.2.1
  intro suf
  induction suf with
  | nil =>
    intro pre h
    refine ev_succ ?_
    simp only [laws_FnLines.l0, if_neg (ixn h)]
    exact Ev.now _
  | cons a s ih =>
    intro pre h
    have hpl : pre.length ≤ l.length := by rw [h]; simp
    obtain ⟨h1, h2, h3, h4⟩ := ix h (by omega)
    have next := ih _ h4
    have ha : a ∈ l := by rw [h]; simp
    have ra : l.getD pre.length z30 = a := by rw [h, getD_mid]
    have hk := dOk_kind (pRig_mem hr a ha).1
    obtain ⟨p, hpm, p1, p2, p3, p4⟩ := pPumpN_pump hr 3 pre s a h (by omega)
    have hj : Ev (fun k => laws_FnLines.j1 k l (pre.length : Int) false) true := by
      refine ev_succ ?_
      simp only [laws_FnLines.j1, Bool.false_eq_true, if_false]
      exact FnLines_l1 hr h (by rw [h3]; exact next) l [] rfl
    have e1 := impl_PumpOf_ev l a.f0 hll hz
    rw [pPump_at hr h, p2] at e1
    obtain ⟨A', B', e'⟩ := List.append_of_mem hpm
    have hf := pFind_self hp e'
    have hA : A'.length < l.length := by rw [e']; simp
    have rp : l.getD A'.length z30 = p := by rw [e', getD_mid]
    have e2 := impl_FindDevice_ev l p.f0 hll
    rw [hf] at e2
    refine ev_succ ?_
    simp only [laws_FnLines.l0, if_pos h1, if_pos (nn _), Int.toNat_natCast, rd_T30, ra]
    refine Ev.bind e1 ?_
    refine Ev.bind e2 ?_
    simp only [if_neg (show ¬ (A'.length : Int) < 0 by omega), if_pos (nn _), if_pos (show (A'.length : Int) < (l.length : Int) by omega), Int.toNat_natCast, rp, if_pos p1]
    by_cases k1 : a.f1 = 1
    · have hpa := p3 k1
      have hix : (A'.length : Int) = (pre.length : Int) := by rw [← hf, hpa]; exact pFind_self hp h
      simp only [if_pos k1, if_pos hix, if_neg (show ¬ a.f1 = 2 by omega)]
      exact hj
    · by_cases k2 : a.f1 = 2
      · have hb : (p.f0.toList != a.f2.toList) = false := by rw [p4 k2]; simp
        simp only [if_neg k1, if_pos k2, hb]
        exact hj
      · simp only [if_neg k1, if_neg k2]
        exact hj
theorem FnLines : laws_FnLines.Pure := by
  intro b _ hb' _
  refine Ev.rounds ?_
  simp only [laws_FnLines.f, laws_big_eq, Option.bind_some, decide_eq_true_eq]
  refine ev_ite (fun _ => Ev.now _) (fun h => ?_)
  have hb : b.length < 1099511627776 := by omega
  obtain ⟨l, e, hl, _⟩ := DrawRig_ok b hb
  refine Ev.bind e ?_
  exact FnLines_l0 hl l [] rfl

end Go.Proofs.Ytkedcokhcgklpaa.Pure
