
/- The law FnDeviceText comes to true for every input: devices are read from what is written, and only valid ones are written. (P6) No condition beside the statement's own. -/
import Derived.Test.YthofcclbkihemaaDoorStFnDeviceText
namespace Go.Proofs.YthofcclbkihemaaDoor.Pure
open Go Go.RowKit Go.Proofs.YthofcclbkihemaaDoor.MFnDeviceText Go.Proofs.YthofcclbkihemaaDoorW.PrintWords Go.Proofs.YthofcclbkihemaaDoorW.PrintLast Go.Proofs.YthofcclbkihemaaDoorW.PrintMore
set_option linter.unusedVariables false
set_option linter.unusedSimpArgs false

theorem ev_succ {α : Type} {g : Nat → Option α} {r : α} (h : Ev (fun k => g (k + 1)) r) : Ev g r := Ev.step (fun _ => rfl) h
theorem ev_ite {α : Type} {c : Prop} [Decidable c] {f g : Nat → Option α} {r : α} (h : c → Ev f r) (h' : ¬ c → Ev g r) : Ev (fun k => if c then f k else g k) r := by
 by_cases hc : c
 ·simp only [if_pos hc]; exact h hc
 ·simp only [if_neg hc]; exact h' hc
theorem nn (n : Nat) : (0 : Int) ≤ (n : Int) := Int.natCast_nonneg n
theorem spec_l1In_eq (a b c : Int) : spec_l1In.f a b c = some (decide (b ≤ a) && decide (a ≤ c)) := by
 unfold spec_l1In.f; split <;> simp <;> omega
theorem impl_isWithin_eq (a b c : Int) : impl_isWithin.f a b c = some (decide (b ≤ a) && decide (a ≤ c)) := by
 unfold impl_isWithin.f; split <;> simp <;> omega
def pSup (n : Int) : Bool := decide (0 ≤ n) && decide (n ≤ 512)
theorem spec_l5Supply_eq (n : Int) : spec_l5Supply.f n = some (pSup n) := by
 simp only [spec_l5Supply.f, spec_l1In_eq, Option.bind_some, pSup]
theorem impl_isSupply_eq (n : Int) : impl_isSupply.f n = some (pSup n) := by
 simp only [impl_isSupply.f, impl_isWithin_eq, Option.bind_some, pSup]
theorem and255 (x : Int) : 0 ≤ Go.bits .and .i64 x 255 ∧ Go.bits .and .i64 x 255 ≤ 255 := by
 have h : ((BitVec.ofInt 64 x) &&& (BitVec.ofInt 64 255)).toNat ≤ 255 := by
  rw [BitVec.toNat_and]
  refine Nat.le_trans Nat.and_le_right ?_
  decide
 have e : Go.bits .and .i64 x 255 = IntKind.i64.wrap (((BitVec.ofInt 64 x) &&& (BitVec.ofInt 64 255)).toNat : Int) := by
  rfl
 rw [e]
 generalize ((BitVec.ofInt 64 x) &&& (BitVec.ofInt 64 255)).toNat = m at h
 rw [IntKind.wrap_i64]; omega
theorem l1Byte_ok (b : List Int) (i h : Int) (hb : b.length < 1099511627776) (hi : 0 ≤ i) : ∃ r i' h', spec_l1Byte.f b i h = some (r, i', h') ∧ 0 ≤ i' ∧ 0 ≤ r ∧ r ≤ 255 := by
 unfold spec_l1Byte.f
 split
 ·exact ⟨_, _, _, rfl, by unfold wrap64; omega, and255 _⟩
 ·exact ⟨_, _, _, rfl, hi, and255 _⟩
theorem l1Below_ok (b : List Int) (i h n : Int) (hb : b.length < 1099511627776) (hi : 0 ≤ i) : ∃ r i' h', spec_l1Below.f b i h n = some (r, i', h') ∧ 0 ≤ i' ∧ 0 ≤ r ∧ (r < n ∨ n ≤ 0 ∧ r = 0) := by
 unfold spec_l1Below.f
 split
 ·exact ⟨_, _, _, rfl, hi, by omega, by omega⟩
 ·rename_i hn
  split
  ·obtain ⟨r, i', h', e, hi', h0, h1⟩ := l1Byte_ok b i h hb hi
   rw [e]; simp only [Option.bind_some]
   rw [if_neg (by omega)]
   exact ⟨_, _, _, rfl, hi', Int.tmod_nonneg _ h0, .inl (Int.tmod_lt_of_pos _ (by omega))⟩
  ·obtain ⟨r, i1, h1, e, hi1, h0, h255⟩ := l1Byte_ok b i h hb hi
   rw [e]; simp only [Option.bind_some]
   obtain ⟨r2, i2, h2, e2, hi2, h02, h2552⟩ := l1Byte_ok b i1 h1 hb hi1
   rw [e2]; simp only [Option.bind_some]
   obtain ⟨r3, i3, h3, e3, hi3, h03, h2553⟩ := l1Byte_ok b i2 h2 hb hi2
   rw [e3]; simp only [Option.bind_some]
   rw [if_neg (by omega)]
   refine ⟨_, _, _, rfl, hi3, Int.tmod_nonneg _ ?_, .inl (Int.tmod_lt_of_pos _ (by omega))⟩
   unfold wrap64; omega
theorem l1Once_ok (b : List Int) (i h n : Int) (hb : b.length < 1099511627776) (hi : 0 ≤ i) : ∃ r i' h', spec_l1Once.f b i h n = some (r, i', h') ∧ 0 ≤ i' := by
 obtain ⟨r, i', h', e, hi', h0, h1⟩ := l1Below_ok b i h n hb hi
 unfold spec_l1Once.f
 rw [e]; simp only [Option.bind_some]
 exact ⟨_, _, _, rfl, hi'⟩
theorem l1Int_ok (b : List Int) (i h : Int) (l : List Int) (hb : b.length < 1099511627776) (hi : 0 ≤ i) (hl : l ≠ []) : ∃ r i' h', spec_l1Int.f b i h l = some (r, i', h') ∧ 0 ≤ i' ∧ r ∈ l := by
 obtain ⟨r, i', h', e, hi', h0, h1⟩ := l1Below_ok b i h (l.length : Int) hb hi
 have hp : 0 < l.length := List.length_pos_iff.2 hl
 unfold spec_l1Int.f
 rw [e]; simp only [Option.bind_some]
 have hlt : r < (l.length : Int) := by omega
 rw [if_pos h0, if_pos hlt]
 refine ⟨_, _, _, rfl, hi', ?_⟩
 have h2 : r.toNat < l.length := by omega
 simp only [rd, List.getD_eq_getElem?_getD, List.getElem?_eq_getElem h2, Option.getD_some]
 exact List.getElem_mem _
theorem l1Odd_ok (b : List Int) (i h : Int) (hb : b.length < 1099511627776) (hi : 0 ≤ i) : ∃ r i' h', spec_l1Odd.f b i h = some (r, i', h') ∧ 0 ≤ i' := by
 unfold spec_l1Odd.f
 obtain ⟨r, i', h', e, hi', _⟩ := l1Int_ok b i h [(-1), 0, 1, 2, 3, 7, 8, 9, 15, 16, 17, 63, 64, 65, 999, 1000, 4096, 4097, 9223372036854775807, (-9223372036854775808)] hb hi (by simp)
 rw [e]; simp only [Option.bind_some]
 exact ⟨_, _, _, rfl, hi'⟩
theorem l1New_l0 (b : List Int) (hb : b.length < 1099511627776) : ∀ (d i : Nat) (h : Int), i + d = b.length → ∃ h', Ev (fun k => spec_l1New.l0 k b h (i : Int)) (b, 0, h') := by
 intro d
 induction d with
 | zero =>
  intro i h hd
  refine ⟨h, ev_succ ?_⟩
  simp only [spec_l1New.l0, if_neg (show ¬ ((i : Int) < (b.length : Int)) by omega)]
  exact Ev.now _
 | succ d ih =>
  intro i h hd
  by_cases h4 : (i : Int) < 4000
  ·obtain ⟨h', e⟩ := ih (i + 1) _ (by omega)
   refine ⟨h', ev_succ ?_⟩
   simp only [spec_l1New.l0, if_pos (show ((i : Int) < (b.length : Int)) by omega), if_pos h4, if_pos (nn _)]
   rw [show wrap64 ((i : Int) + 1) = ((i + 1 : Nat) : Int) by unfold wrap64; omega]
   exact e
  ·refine ⟨h, ev_succ ?_⟩
   simp only [spec_l1New.l0, if_pos (show ((i : Int) < (b.length : Int)) by omega), if_neg h4]
   exact Ev.now _
theorem l1New_ev (b : List Int) (hb : b.length < 1099511627776) : ∃ h', Ev (fun k => spec_l1New.f k b) (b, 0, h') := l1New_l0 b hb b.length 0 _ (by omega)
theorem laws_big_eq (b : List Int) : laws_big.f b = some (decide ((b.length : Int) > 4096)) := rfl
def pHead (h : Int) : Bool := decide (0 ≤ h) && decide (h ≤ 3)
theorem spec_IsHeading_eq (h : Int) : spec_IsHeading.f h = some (pHead h) := by
 unfold spec_IsHeading.f pHead; split <;> simp <;> omega
theorem impl_IsHeading_eq (h : Int) : impl_IsHeading.f h = some (pHead h) := by
 simp only [impl_IsHeading.f, impl_isWithin_eq, Option.bind_some, pHead]
def pMeas (x : Int) : Bool := decide (-4096 ≤ x) && decide (x ≤ 4096)
theorem spec_IsMeasure_eq (x : Int) : spec_IsMeasure.f x = some (pMeas x) := by
 unfold spec_IsMeasure.f pMeas; split <;> simp <;> omega
def pMeas' (x : Int) : Bool := decide (-4096 ≤ x) && decide (x ≤ 4096)
theorem impl_IsMeasure_eq (x : Int) : impl_IsMeasure.f x = some (pMeas' x) := by
 simp only [impl_IsMeasure.f, impl_isWithin_eq, Option.bind_some, pMeas']
def pPlace (x y : Int) : Bool := (decide (-4096 ≤ x) && decide (x ≤ 4096)) && (decide (-4096 ≤ y) && decide (y ≤ 4096))
theorem spec_IsPlace_eq (x y : Int) : spec_IsPlace.f x y = some (pPlace x y) := by
 simp only [spec_IsPlace.f, spec_IsMeasure_eq, Option.bind_some, pPlace, pMeas]
 cases (decide (-4096 ≤ x) && decide (x ≤ 4096)) <;> simp
theorem impl_IsPlace_eq (x y : Int) : impl_IsPlace.f x y = some (pPlace x y) := by
 simp only [impl_IsPlace.f, impl_IsMeasure_eq, Option.bind_some, pPlace, pMeas']
 cases (decide (-4096 ≤ x) && decide (x ≤ 4096)) <;> simp
theorem l1Some_ok (b : List Int) (i h lo hi : Int) (hb : b.length < 1099511627776) (hi0 : 0 ≤ i) (h1 : lo ≤ hi) (h2 : -100000 ≤ lo) (h3 : hi ≤ 100000) : ∃ r i' h', spec_l1Some.f b i h lo hi = some (r, i', h') ∧ 0 ≤ i' ∧ lo ≤ r ∧ r ≤ hi := by
 unfold spec_l1Some.f
 obtain ⟨r, i', h', e, hi', h0, hr⟩ := l1Below_ok b i h (wrap64 ((wrap64 (hi - lo)) + 1)) hb hi0
 rw [e]; simp only [Option.bind_some]
 have : wrap64 ((wrap64 (hi - lo)) + 1) = hi - lo + 1 := by unfold wrap64; omega
 rw [this] at hr
 exact ⟨_, _, _, rfl, hi', by unfold wrap64; omega, by unfold wrap64; omega⟩
def nmC (b : Int) (i : Nat) : Bool := (decide (97 ≤ b) && decide (b ≤ 122)) || ((decide (48 ≤ b) && decide (b ≤ 57)) && !decide (i = 0))
def nmR (a : ByteArray) : Nat → Nat → Bool
 | 0, _ => decide (1 ≤ (a.size : Int)) && decide ((a.size : Int) ≤ 8)
 | d + 1, i => nmC (bt a (i : Int)) i && nmR a d (i + 1)
def pName (a : ByteArray) : Bool := nmR a a.size 0
theorem spec_IsName_l0 (a : ByteArray) (ha : a.size ≤ 9223372036854775807) : ∀ (d i : Nat), i + d = a.size → Ev (fun k => spec_IsName.l0 k a (i : Int)) (nmR a d i) := by
 intro d
 induction d with
 | zero =>
  intro i h
  refine ev_succ ?_
  simp only [spec_IsName.l0, if_neg (show ¬ ((i : Int) < (a.size : Int)) by omega), nmR]
  refine ev_ite (fun c => ?_) (fun c => ?_)
  ·rw [decide_eq_true (show 1 ≤ (a.size : Int) by omega), Bool.true_and]; exact Ev.now _
  ·rw [decide_eq_false (show ¬ 1 ≤ (a.size : Int) by omega), Bool.false_and]; exact Ev.now _
 | succ d ih =>
  intro i h
  have ih' := ih (i + 1) (by omega)
  refine ev_succ ?_
  simp only [spec_IsName.l0, if_pos (show ((i : Int) < (a.size : Int)) by omega), if_pos (nn _), nmR]
  rw [show wrap64 ((i : Int) + 1) = ((i + 1 : Nat) : Int) by unfold wrap64; omega]
  generalize bt a (i : Int) = b
  have hi : ((i : Int) = 0) = (i = 0) := by simp
  simp only [nmC, hi]
  by_cases h1 : 97 ≤ b <;> by_cases h2 : b ≤ 122 <;> by_cases h3 : 48 ≤ b <;> by_cases h4 : b ≤ 57 <;> by_cases h5 : i = 0 <;> first | (exfalso; omega) | skip
  all_goals simp only [ge_iff_le, h1, h2, h3, h4, h5, decide_true, decide_false, Bool.true_and, Bool.false_and, Bool.and_true, Bool.and_false, Bool.or_true, Bool.true_or, Bool.or_false, Bool.false_or, Bool.not_true, Bool.not_false, if_true, if_false]
  all_goals first | exact Ev.now _ | exact ih' | (subst h5; exact ih')
theorem spec_IsName_ev (a : ByteArray) (ha : a.size ≤ 9223372036854775807) : Ev (fun k => spec_IsName.f k a) (pName a) := spec_IsName_l0 a ha a.size 0 (by omega)
theorem impl_IsName_l0 (a : ByteArray) (ha : a.size ≤ 9223372036854775807) : ∀ (d i : Nat), i + d = a.size → Ev (fun k => impl_IsName.l0 k a (a.size : Int) (i : Int)) (nmR a d i) := by
 intro d
 induction d with
 | zero =>
  intro i h
  refine ev_succ ?_
  simp only [impl_IsName.l0, if_neg (show ¬ ((i : Int) < (a.size : Int)) by omega), nmR, impl_isWithin_eq, Option.bind_some]
  exact Ev.now _
 | succ d ih =>
  intro i h
  have ih' := ih (i + 1) (by omega)
  refine ev_succ ?_
  simp only [impl_IsName.l0, if_pos (show ((i : Int) < (a.size : Int)) by omega), if_pos (nn _), nmR]
  rw [show wrap64 ((i : Int) + 1) = ((i + 1 : Nat) : Int) by unfold wrap64; omega]
  generalize bt a (i : Int) = b
  have hi : ((i : Int) = 0) = (i = 0) := by simp
  simp only [nmC, hi, gt_iff_lt, ← Int.not_le]
  by_cases h1 : 97 ≤ b <;> by_cases h2 : b ≤ 122 <;> by_cases h3 : 48 ≤ b <;> by_cases h4 : b ≤ 57 <;> by_cases h5 : i = 0 <;> first | (exfalso; omega) | skip
  all_goals simp only [ge_iff_le, h1, h2, h3, h4, h5, not_true_eq_false, not_false_eq_true, decide_true, decide_false, Bool.true_and, Bool.false_and, Bool.and_true, Bool.and_false, Bool.or_true, Bool.true_or, Bool.or_false, Bool.false_or, Bool.not_true, Bool.not_false, if_true, if_false]
  all_goals first | exact Ev.now _ | exact ih' | (subst h5; exact ih')
theorem impl_IsName_ev (a : ByteArray) (ha : a.size ≤ 9223372036854775807) : Ev (fun k => impl_IsName.f k a) (pName a) := impl_IsName_l0 a ha a.size 0 (by omega)
theorem l1Str_ok (b : List Int) (i h : Int) (l : List ByteArray) (hb : b.length < 1099511627776) (hi : 0 ≤ i) (hl : l ≠ []) : ∃ r i' h', spec_l1Str.f b i h l = some (r, i', h') ∧ 0 ≤ i' ∧ r ∈ l := by
 obtain ⟨r, i', h', e, hi', h0, h1⟩ := l1Below_ok b i h (l.length : Int) hb hi
 have hp : 0 < l.length := List.length_pos_iff.2 hl
 unfold spec_l1Str.f
 rw [e]; simp only [Option.bind_some]
 have hlt : r < (l.length : Int) := by omega
 rw [if_pos h0, if_pos hlt]
 refine ⟨_, _, _, rfl, hi', ?_⟩
 have h2 : r.toNat < l.length := by omega
 simp only [rdOf, List.getD_eq_getElem?_getD, List.getElem?_eq_getElem h2, Option.getD_some]
 exact List.getElem_mem _
def i16 (a lo hi : Int) : Bool := decide (lo ≤ a) && decide (a ≤ hi)
def pJet (a b c d e : Int) : Bool := i16 a (-1024) 1024 && (i16 b (-1024) 1024 && (pHead c && (i16 d 0 16 && i16 e 1 32)))
def pLineOk (n l : ByteArray) : Bool := pName l && !(l.toList == n.toList)
def pDevice (n : ByteArray) (k : Int) (l : ByteArray) (a b c d e : Int) : Bool :=
 pName n && (if k = 1 then pSup e && (l.toList == ([] : List UInt8) && ((a == 0 && (b == 0)) && (c == 0 && (d == 0))))
  else if k = 2 then pLineOk n l && (pJet a b c d 1 && i16 e 0 32)
  else if k = 3 then pLineOk n l && (pPlace a b && (c == 0 && (d == 0 && (e == 0)))) else false)
theorem ev_and {c : Bool} {f : Nat → Option Bool} {b : Bool} (h : c = true → Ev f b) : Ev (fun k => if c = true then f k else some false) (c && b) := by
 cases c
 ·simp only [Bool.false_eq_true, if_false, Bool.false_and]; exact Ev.now _
 ·simp only [if_true, Bool.true_and]; exact h rfl
theorem so_and (c b : Bool) : (if c = true then some b else some false) = some (c && b) := by cases c <;> rfl
theorem spec_IsJet_eq (a b c d e : Int) : spec_IsJet.f a b c d e = some (pJet a b c d e) := by
 simp only [spec_IsJet.f, spec_l1In_eq, spec_IsHeading_eq, Option.bind_some, pJet, i16, so_and]
theorem spec_IsDevice_ev (n : ByteArray) (k : Int) (l : ByteArray) (a b c d e : Int) (hn : n.size ≤ 9223372036854775807) (hl : l.size ≤ 9223372036854775807) : Ev (fun q => spec_IsDevice.f q n k l a b c d e) (pDevice n k l a b c d e) := by
 have j : ∀ x : Bool, x = pLineOk n l → Ev (fun q => spec_IsDevice.j0 q x n k l a b c d e) (pDevice n k l a b c d e) := by
  intro x hx
  refine ev_succ ?_
  simp only [spec_IsDevice.j0, spec_l6Jet.f, spec_IsJet_eq, spec_l5Supply_eq, spec_IsPlace_eq, spec_l1In_eq, Option.bind_some, so_and]
  refine Ev.bind (spec_IsName_ev n hn) ?_
  rw [pDevice, hx]
  refine ev_and (fun _ => ?_)
  refine ev_ite (fun h => ?_) (fun h => ?_)
  ·rw [if_pos h]; exact Ev.now _
  ·rw [if_neg h]
   refine ev_ite (fun h => ?_) (fun h => ?_)
   ·rw [if_pos h]; exact Ev.now _
   ·rw [if_neg h]
    refine ev_ite (fun h => ?_) (fun h => ?_)
    ·rw [if_pos h]; exact Ev.now _
    ·rw [if_neg h]; exact Ev.now _
 unfold spec_IsDevice.f
 refine Ev.bind (spec_IsName_ev l hl) ?_
 refine ev_ite (fun h => ?_) (fun h => ?_)
 ·refine j _ ?_
  rw [pLineOk, h, Bool.true_and]; rfl
 ·refine j _ ?_
  rw [pLineOk, Bool.eq_false_iff.2 h, Bool.false_and]
theorem impl_IsJet_eq (a b c d e : Int) : impl_IsJet.f a b c d e = some (pJet a b c d e) := by
 simp only [impl_IsJet.f, impl_isWithin_eq, impl_IsHeading_eq, Option.bind_some, pJet, i16, so_and]
theorem impl_IsDevice_ev (n : ByteArray) (k : Int) (l : ByteArray) (a b c d e : Int) (hn : n.size ≤ 9223372036854775807) (hl : l.size ≤ 9223372036854775807) : Ev (fun q => impl_IsDevice.f q n k l a b c d e) (pDevice n k l a b c d e) := by
 simp only [impl_IsDevice.f, impl_IsJet_eq, impl_isSupply_eq, impl_IsPlace_eq, impl_isWithin_eq, Option.bind_some, so_and]
 refine Ev.bind (impl_IsName_ev n hn) ?_
 rw [pDevice]
 refine ev_and (fun _ => ?_)
 refine ev_ite (fun h => ?_) (fun h => ?_)
 ·rw [if_pos h, Bool.and_comm]; exact Ev.now _
 ·rw [if_neg h]
  refine ev_ite (fun h => ?_) (fun h => ?_)
  ·rw [if_pos h]
   refine Ev.bind (impl_IsName_ev l hl) ?_
   rw [pLineOk, Bool.and_assoc]
   refine ev_and (fun _ => ?_)
   by_cases e : l.toList = n.toList
   ·simp only [if_pos e, e, beq_self_eq_true, Bool.not_true, Bool.false_and]; exact Ev.now _
   ·simp only [if_neg e, beq_eq_false_iff_ne.2 e, Bool.not_false, Bool.true_and]; exact Ev.now _
  ·rw [if_neg h]
   refine ev_ite (fun h => ?_) (fun h => ?_)
   ·rw [if_pos h]
    rw [show (pLineOk n l && (pPlace a b && (c == 0 && (d == 0 && (e == 0))))) = ((c == 0 && (d == 0 && (e == 0))) && (pLineOk n l && pPlace a b)) by cases pLineOk n l <;> cases pPlace a b <;> cases (c == 0 && (d == 0 && (e == 0))) <;> rfl]
    refine ev_and (fun _ => ?_)
    refine Ev.bind (impl_IsName_ev l hl) ?_
    rw [pLineOk, Bool.and_assoc]
    refine ev_and (fun _ => ?_)
    by_cases e : l.toList = n.toList
    ·simp only [if_pos e, e, beq_self_eq_true, Bool.not_true, Bool.false_and]; exact Ev.now _
    ·simp only [if_neg e, beq_eq_false_iff_ne.2 e, Bool.not_false, Bool.true_and]; exact Ev.now _
   ·rw [if_neg h]; exact Ev.now _
theorem l1Word_ok (b : List Int) (i h : Int) (hb : b.length < 1099511627776) (hi : 0 ≤ i) : ∃ r i' h', spec_l1Word.f b i h = some (r, i', h') ∧ 0 ≤ i' ∧ r.size ≤ 1000 := by
 have key : ∀ L : List ByteArray, L ≠ [] → (∀ x ∈ L, x.size ≤ 1000) → ∃ r i' h', ((spec_l1Str.f b i h L).bind fun bt => some (bt.1, bt.2.1, bt.2.2)) = some (r, i', h') ∧ 0 ≤ i' ∧ r.size ≤ 1000 := by
  intro L h1 h2
  obtain ⟨r, i', h', e, hi', hr⟩ := l1Str_ok b i h L hb hi h1
  exact ⟨r, i', h', by rw [e]; rfl, hi', h2 r hr⟩
 exact key _ (by simp) (by decide)
structure TPl where
 f0 : Int
 f1 : Int
structure De where
 f0 : ByteArray
 f1 : Int
 f2 : ByteArray
 f3 : TPl
 f4 : Int
 f5 : Int
 f6 : Int
theorem l2Draw_ok (b : List Int) (i h : Int) (hb : b.length < 1099511627776) (hi : 0 ≤ i) : ∃ x y i' h', spec_l2Draw.f b i h = some (x, y, i', h') ∧ 0 ≤ i' := by
 obtain ⟨x, i1, h1, e1, hi1, _⟩ := l1Some_ok b i h (-64) 64 hb hi (by omega) (by omega) (by omega)
 obtain ⟨y, i2, h2, e2, hi2, _⟩ := l1Some_ok b i1 h1 (-64) 64 hb hi1 (by omega) (by omega) (by omega)
 exact ⟨x, y, i2, h2, by simp only [spec_l2Draw.f, e1, e2, Option.bind_some], hi2⟩
theorem l3Draw_ok (b : List Int) (i h : Int) (hb : b.length < 1099511627776) (hi : 0 ≤ i) : ∃ x y hd t lf i' h', spec_l3Draw.f b i h = some (x, y, hd, t, lf, i', h') ∧ 0 ≤ i' := by
 obtain ⟨x, y, i1, h1, e1, hi1⟩ := l2Draw_ok b i h hb hi
 obtain ⟨hd, i2, h2, e2, hi2, _⟩ := l1Below_ok b i1 h1 4 hb hi1
 obtain ⟨t, i3, h3, e3, hi3, _⟩ := l1Below_ok b i2 h2 17 hb hi2
 obtain ⟨lf, i4, h4, e4, hi4, _⟩ := l1Some_ok b i3 h3 1 32 hb hi3 (by omega) (by omega) (by omega)
 exact ⟨x, y, hd, t, lf, i4, h4, by simp only [spec_l3Draw.f, e1, e2, e3, e4, Option.bind_some], hi4⟩
theorem l6Nozzle_ok (b : List Int) (i h : Int) (n l : ByteArray) (hb : b.length < 1099511627776) (hi : 0 ≤ i) : ∃ x y hd t m i' h', spec_l6Nozzle.f b i h n l = some (n, 2, l, x, y, hd, t, m, i', h') ∧ 0 ≤ i' := by
 obtain ⟨x, y, hd, t, lf, i1, h1, e1, hi1⟩ := l3Draw_ok b i h hb hi
 obtain ⟨m, i2, h2, e2, hi2, _⟩ := l1Some_ok b i1 h1 0 32 hb hi1 (by omega) (by omega) (by omega)
 exact ⟨x, y, hd, t, m, i2, h2, by simp only [spec_l6Nozzle.f, e1, e2, Option.bind_some], hi2⟩
theorem l6Name_ok (b : List Int) (i h : Int) (hb : b.length < 1099511627776) (hi : 0 ≤ i) : ∃ r i' h', spec_l6Name.f b i h = some (r, i', h') ∧ 0 ≤ i' ∧ r.size ≤ 1000 := by
 have key : ∀ L : List ByteArray, L ≠ [] → (∀ x ∈ L, x.size ≤ 1000) → ∃ r i' h', ((spec_l1Str.f b i h L).bind fun bt => some (bt.1, bt.2.1, bt.2.2)) = some (r, i', h') ∧ 0 ≤ i' ∧ r.size ≤ 1000 := by
  intro L h1 h2
  obtain ⟨r, i', h', e, hi', hr⟩ := l1Str_ok b i h L hb hi h1
  exact ⟨r, i', h', by rw [e]; rfl, hi', h2 r hr⟩
 exact key _ (by simp) (by decide)
theorem l2Any_ok (b : List Int) (i h : Int) (hb : b.length < 1099511627776) (hi : 0 ≤ i) : ∃ x y i' h', Ev (fun k => spec_l2Any.f k b i h) (x, y, i', h') ∧ 0 ≤ i' := by
 have j : ∀ (x y i h : Int), 0 ≤ i → ∃ x' y' i' h', Ev (fun k => spec_l2Any.j0 k b i h x y) (x', y', i', h') ∧ 0 ≤ i' := by
  intro x y i h hi
  obtain ⟨o, i1, h1, e1, hi1⟩ := l1Once_ok b i h 9 hb hi
  cases o with
  | false => exact ⟨_, _, _, _, ev_succ (by simp only [spec_l2Any.j0, e1, Option.bind_some, Bool.false_eq_true, if_false]; exact Ev.now _), hi1⟩
  | true =>
   obtain ⟨z, i2, h2, e2, hi2, _⟩ := l1Int_ok b i1 h1 [4096, (-4096), 4097, (-4097), 4090] hb hi1 (by simp)
   exact ⟨_, _, _, _, ev_succ (by simp only [spec_l2Any.j0, e1, e2, Option.bind_some, if_true]; exact Ev.now _), hi2⟩
 obtain ⟨x, y, i1, h1, e1, hi1⟩ := l2Draw_ok b i h hb hi
 obtain ⟨o, i2, h2, e2, hi2⟩ := l1Once_ok b i1 h1 9 hb hi1
 cases o with
 | false =>
  obtain ⟨x', y', i', h', e, hi'⟩ := j x y i2 h2 hi2
  exact ⟨x', y', i', h', by simp only [spec_l2Any.f, e1, e2, Option.bind_some, Bool.false_eq_true, if_false]; exact e, hi'⟩
 | true =>
  obtain ⟨z, i3, h3, e3, hi3⟩ := l1Odd_ok b i2 h2 hb hi2
  obtain ⟨x', y', i', h', e, hi'⟩ := j z y i3 h3 hi3
  exact ⟨x', y', i', h', by simp only [spec_l2Any.f, e1, e2, e3, Option.bind_some, if_true]; exact e, hi'⟩
theorem l3Any_ok (b : List Int) (i h : Int) (hb : b.length < 1099511627776) (hi : 0 ≤ i) : ∃ x y hd t lf i' h', Ev (fun k => spec_l3Any.f k b i h) (x, y, hd, t, lf, i', h') ∧ 0 ≤ i' := by
 obtain ⟨x, y, hd, t, lf, i1, h1, e1, hi1⟩ := l3Draw_ok b i h hb hi
 obtain ⟨o, i2, h2, e2, hi2, _⟩ := l1Below_ok b i1 h1 12 hb hi1
 simp only [spec_l3Any.f, e1, e2, Option.bind_some]
 by_cases c0 : o = 0
 ·obtain ⟨u, v, i3, h3, e3, hi3⟩ := l2Any_ok b i2 h2 hb hi2
  refine ⟨u, v, hd, t, lf, i3, h3, ?_, hi3⟩
  simp only [if_pos c0]
  refine Ev.bind e3 ?_
  exact Ev.now _
 ·simp only [if_neg c0]
  by_cases c1 : o = 1
  ·obtain ⟨u, i3, h3, e3, hi3⟩ := l1Odd_ok b i2 h2 hb hi2
   refine ⟨x, y, u, t, lf, i3, h3, ?_, hi3⟩
   simp only [if_pos c1, e3, Option.bind_some]
   exact Ev.now _
  ·simp only [if_neg c1]
   by_cases c2 : o = 2
   ·obtain ⟨u, i3, h3, e3, hi3, _⟩ := l1Int_ok b i2 h2 [(-1), 17, 16, 1000, 9223372036854775807] hb hi2 (by simp)
    refine ⟨x, y, hd, u, lf, i3, h3, ?_, hi3⟩
    simp only [if_pos c2, e3, Option.bind_some]
    exact Ev.now _
   ·simp only [if_neg c2]
    by_cases c3 : o = 3
    ·obtain ⟨u, i3, h3, e3, hi3, _⟩ := l1Int_ok b i2 h2 [0, (-1), 33, 32, 9223372036854775807, (-9223372036854775808)] hb hi2 (by simp)
     refine ⟨x, y, hd, t, u, i3, h3, ?_, hi3⟩
     simp only [if_pos c3, e3, Option.bind_some]
     exact Ev.now _
    ·simp only [if_neg c3]
     by_cases c4 : o = 4
     ·obtain ⟨u, i3, h3, e3, hi3, _⟩ := l1Int_ok b i2 h2 [1024, 1025, (-1024), (-1025)] hb hi2 (by simp)
      obtain ⟨v, i4, h4, e4, hi4, _⟩ := l1Int_ok b i3 h3 [0, 1024, (-1025)] hb hi3 (by simp)
      refine ⟨u, v, hd, t, lf, i4, h4, ?_, hi4⟩
      simp only [if_pos c4, e3, e4, Option.bind_some]
      exact Ev.now _
     ·refine ⟨x, y, hd, t, lf, i2, h2, ?_, hi2⟩
      simp only [if_neg c4]
      exact Ev.now _
theorem l6Any_j2 (b : List Int) (hb : b.length < 1099511627776) (n : ByteArray) (kd : Int) (l : ByteArray) (x y hd t m i h : Int) (hi : 0 ≤ i) (hn : n.size ≤ 1000) (hl : l.size ≤ 1000) :
  ∃ (c : De) (i' h' : Int), Ev (fun k => spec_l6Any.j2 k b i h n kd l x y hd t m) (c.f0, c.f1, c.f2, c.f3.f0, c.f3.f1, c.f4, c.f5, c.f6, i', h') ∧ 0 ≤ i' ∧ c.f0.size ≤ 1000 ∧ c.f2.size ≤ 1000 := by
 obtain ⟨o, i2, h2, e2, hi2, _⟩ := l1Below_ok b i h 12 hb hi
 by_cases c0 : o = 0
 ·obtain ⟨u, i3, h3, e3, hi3, hu⟩ := l1Word_ok b i2 h2 hb hi2
  exact ⟨⟨u, kd, l, ⟨x, y⟩, hd, t, m⟩, i3, h3, ev_succ (by simp only [spec_l6Any.j2, e2, e3, Option.bind_some, if_pos c0]; exact Ev.now _), hi3, hu, hl⟩
 ·by_cases c1 : o = 1
  ·obtain ⟨u, i3, h3, e3, hi3⟩ := l1Odd_ok b i2 h2 hb hi2
   exact ⟨⟨n, kd, l, ⟨x, y⟩, hd, u, m⟩, i3, h3, ev_succ (by simp only [spec_l6Any.j2, e2, e3, Option.bind_some, if_neg c0, if_pos c1]; exact Ev.now _), hi3, hn, hl⟩
  ·by_cases c2 : o = 2
   ·obtain ⟨u, v, p, q, r, i3, h3, e3, hi3⟩ := l3Any_ok b i2 h2 hb hi2
    refine ⟨⟨n, kd, l, ⟨u, v⟩, hd, t, m⟩, i3, h3, ev_succ ?_, hi3, hn, hl⟩
    simp only [spec_l6Any.j2, e2, Option.bind_some, if_neg c0, if_neg c1, if_pos c2]
    refine Ev.bind e3 ?_
    exact Ev.now _
   ·exact ⟨⟨n, kd, l, ⟨x, y⟩, hd, t, m⟩, i2, h2, ev_succ (by simp only [spec_l6Any.j2, e2, Option.bind_some, if_neg c0, if_neg c1, if_neg c2]; exact Ev.now _), hi2, hn, hl⟩
theorem l6Any_j1 (b : List Int) (hb : b.length < 1099511627776) (o : Int) (z : Bool) (n : ByteArray) (kd : Int) (l : ByteArray) (x y hd t m i h : Int) (hi : 0 ≤ i) (hn : n.size ≤ 1000) (hl : l.size ≤ 1000) :
  ∃ (c : De) (i' h' : Int), Ev (fun k => spec_l6Any.j1 k o z b i h n kd l x y hd t m) (c.f0, c.f1, c.f2, c.f3.f0, c.f3.f1, c.f4, c.f5, c.f6, i', h') ∧ 0 ≤ i' ∧ c.f0.size ≤ 1000 ∧ c.f2.size ≤ 1000 := by
 cases z with
 | true =>
  obtain ⟨u, i1, h1, e1, hi1, hu⟩ := l6Name_ok b i h hb hi
  obtain ⟨v, i2, h2, e2, hi2, hv⟩ := l6Name_ok b i1 h1 hb hi1
  obtain ⟨p, q, i3, h3, e3, hi3⟩ := l2Any_ok b i2 h2 hb hi2
  obtain ⟨c, i', h', e, r⟩ := l6Any_j2 b hb u 3 v p q 0 0 0 i3 h3 hi3 hu hv
  refine ⟨c, i', h', ev_succ ?_, r⟩
  simp only [spec_l6Any.j1, e1, e2, Option.bind_some, if_true]
  refine Ev.bind e3 ?_
  exact e
 | false =>
  by_cases c4 : o = 4
  ·obtain ⟨u, i3, h3, e3, hi3⟩ := l1Odd_ok b i h hb hi
   obtain ⟨c, i', h', e, r⟩ := l6Any_j2 b hb n kd l x y hd t u i3 h3 hi3 hn hl
   exact ⟨c, i', h', ev_succ (by simp only [spec_l6Any.j1, e3, Option.bind_some, Bool.false_eq_true, if_false, if_pos c4]; exact e), r⟩
  ·by_cases c5 : o = 5
   ·obtain ⟨u, i3, h3, e3, hi3⟩ := l1Odd_ok b i h hb hi
    obtain ⟨c, i', h', e, r⟩ := l6Any_j2 b hb n u l x y hd t m i3 h3 hi3 hn hl
    exact ⟨c, i', h', ev_succ (by simp only [spec_l6Any.j1, e3, Option.bind_some, Bool.false_eq_true, if_false, if_neg c4, if_pos c5]; exact e), r⟩
   ·obtain ⟨c, i', h', e, r⟩ := l6Any_j2 b hb n kd l x y hd t m i h hi hn hl
    exact ⟨c, i', h', ev_succ (by simp only [spec_l6Any.j1, Bool.false_eq_true, if_false, if_neg c4, if_neg c5]; exact e), r⟩
theorem l6Any_j0 (b : List Int) (hb : b.length < 1099511627776) (o : Int) (z : Bool) (n : ByteArray) (kd : Int) (l : ByteArray) (x y hd t m i h : Int) (hi : 0 ≤ i) (hn : n.size ≤ 1000) (hl : l.size ≤ 1000) :
  ∃ (c : De) (i' h' : Int), Ev (fun k => spec_l6Any.j0 k o z b i h n kd l x y hd t m) (c.f0, c.f1, c.f2, c.f3.f0, c.f3.f1, c.f4, c.f5, c.f6, i', h') ∧ 0 ≤ i' ∧ c.f0.size ≤ 1000 ∧ c.f2.size ≤ 1000 := by
 cases z with
 | true =>
  obtain ⟨u, i1, h1, e1, hi1, hu⟩ := l6Name_ok b i h hb hi
  obtain ⟨v, i2, h2, e2, hi2, _⟩ := l1Below_ok b i1 h1 600 hb hi1
  obtain ⟨c, i', h', e, r⟩ := l6Any_j2 b hb u 1 (⟨#[]⟩ : ByteArray) 0 0 0 0 v i2 h2 hi2 hu (by show (0 : Nat) ≤ _; omega)
  refine ⟨c, i', h', ev_succ ?_, r⟩
  simp only [spec_l6Any.j0, e1, e2, Option.bind_some, if_true]
  exact e
 | false =>
  by_cases c2 : o = 2
  ·obtain ⟨c, i', h', e, r⟩ := l6Any_j1 b hb o (o == 2) n kd l x y hd t m i h hi hn hl
   exact ⟨c, i', h', ev_succ (by simp only [spec_l6Any.j0, Bool.false_eq_true, if_false, if_pos c2]; exact e), r⟩
  ·obtain ⟨c, i', h', e, r⟩ := l6Any_j1 b hb o (o == 3) n kd l x y hd t m i h hi hn hl
   exact ⟨c, i', h', ev_succ (by simp only [spec_l6Any.j0, Bool.false_eq_true, if_false, if_neg c2]; exact e), r⟩
theorem l6Any_ok (b : List Int) (i h : Int) (hb : b.length < 1099511627776) (hi : 0 ≤ i) :
  ∃ (c : De) (i' h' : Int), Ev (fun k => spec_l6Any.f k b i h) (c.f0, c.f1, c.f2, c.f3.f0, c.f3.f1, c.f4, c.f5, c.f6, i', h') ∧ 0 ≤ i' ∧ c.f0.size ≤ 1000 ∧ c.f2.size ≤ 1000 := by
 obtain ⟨u, i1, h1, e1, hi1, hu⟩ := l6Name_ok b i h hb hi
 obtain ⟨v, i2, h2, e2, hi2, hv⟩ := l6Name_ok b i1 h1 hb hi1
 obtain ⟨x, y, hd, t, m, i3, h3, e3, hi3⟩ := l6Nozzle_ok b i2 h2 u v hb hi2
 obtain ⟨o, i4, h4, e4, hi4, _⟩ := l1Below_ok b i3 h3 9 hb hi3
 simp only [spec_l6Any.f, e1, e2, e3, e4, Option.bind_some]
 by_cases c0 : o = 0
 ·simp only [if_pos c0]; exact l6Any_j0 b hb o _ u 2 v x y hd t m i4 h4 hi4 hu hv
 ·simp only [if_neg c0]; exact l6Any_j0 b hb o _ u 2 v x y hd t m i4 h4 hi4 hu hv
def pNum (n : Int) : ByteArray := ⟨(Go.Lib.itoa n).toArray⟩
theorem decDigits_len : ∀ (u : Nat), (Go.Lib.decDigits u).length ≤ u + 1 := by
 intro u
 induction u using Nat.strongRecOn with
 | ind u ih =>
  rw [Go.Lib.decDigits]
  split
  ·simp
  ·rw [List.length_append]
   have := ih (u / 10) (by omega)
   simp only [List.length_cons, List.length_nil]
   omega
theorem pNum_nn (n : Nat) : pNum (n : Int) = ⟨(Go.Lib.decDigits n).toArray⟩ := by
 unfold pNum Go.Lib.itoa
 rw [if_neg (by omega), Int.toNat_natCast]
theorem pNum_size (n : Nat) : (pNum (n : Int)).size ≤ n + 1 := by
 rw [pNum_nn]
 show (Go.Lib.decDigits n).toArray.size ≤ n + 1
 rw [List.size_toArray]; exact decDigits_len n
theorem strOfNums_one (m : Nat) : strOfNums [(m : Int)] = ⟨#[UInt8.ofNat m]⟩ := by simp [strOfNums]
theorem pNum_small {n : Nat} (h : n < 10) : pNum (n : Int) = ⟨#[UInt8.ofNat (48 + n)]⟩ := by
 rw [pNum_nn, Go.Lib.decDigits, dif_pos h]
theorem pNum_step {n : Nat} (h : ¬ n < 10) : pNum (n : Int) = pNum ((n / 10 : Nat) : Int) ++ ⟨#[UInt8.ofNat (48 + n % 10)]⟩ := by
 rw [pNum_nn, pNum_nn, Go.Lib.decDigits, dif_neg h]
 apply ByteArray.ext
 simp [ByteArray.data_append]
theorem tdivn (n m : Nat) : Int.tdiv (n : Int) (m : Int) = ((n / m : Nat) : Int) := by rw [Int.tdiv_eq_ediv_of_nonneg (by omega)]; rfl
theorem tmodn (n m : Nat) : Int.tmod (n : Int) (m : Int) = ((n % m : Nat) : Int) := by rw [Int.tmod_eq_emod_of_nonneg (by omega)]; rfl
theorem pNum_sz (t : Int) (h0 : 0 ≤ t) (h1 : t ≤ 100000) : (pNum t).size ≤ 100001 := by
 obtain ⟨m, rfl⟩ := Int.eq_ofNat_of_zero_le h0
 have := pNum_size m
 omega
theorem impl_FormatNumber_eq (n : Int) (h0 : -9223372036854775808 ≤ n) (h1 : n ≤ 9223372036854775807) : impl_FormatNumber.f n = some (pNum n) := by
 unfold impl_FormatNumber.f strconv_Itoa.f
 rw [if_pos ⟨h0, h1⟩]; rfl
theorem impl_FormatNumber_ev (n : Int) (h0 : -9223372036854775808 ≤ n) (h1 : n ≤ 9223372036854775807) : Ev (fun _ => impl_FormatNumber.f n) (pNum n) := by
 rw [impl_FormatNumber_eq n h0 h1]; exact Ev.now _
theorem spec_FormatNumber_ev : ∀ (n : Nat), n ≤ 1000000 → Ev (fun k => spec_FormatNumber.f k (n : Int)) (pNum (n : Int)) := by
 intro n
 induction n using Nat.strongRecOn with
 | ind n ih =>
  intro hn
  refine ev_succ ?_
  simp only [spec_FormatNumber.f, if_neg (show ¬ (n : Int) = -9223372036854775808 by omega), if_neg (show ¬ (n : Int) < 0 by omega), Option.bind_some]
  have e1 : (wrap64 (48 + Int.tmod (n : Int) 10)) % 256 = ((48 + n % 10 : Nat) : Int) := by
   rw [show (10 : Int) = ((10 : Nat) : Int) from rfl, tmodn]; unfold wrap64; omega
  have e2 : wrap64 (Int.tdiv (n : Int) 10) = ((n / 10 : Nat) : Int) := by
   rw [show (10 : Int) = ((10 : Nat) : Int) from rfl, tdivn]; unfold wrap64; omega
  rw [e1, e2, strOfNums_one]
  refine ev_ite (fun c => ?_) (fun c => ?_)
  ·refine Ev.bind (ih (n / 10) (by omega) (by omega)) ?_
   have hs := pNum_size (n / 10)
   have h1 : (⟨#[UInt8.ofNat (48 + n % 10)]⟩ : ByteArray).size = 1 := rfl
   rw [← pNum_step (show ¬ n < 10 by omega)]
   exact ev_ite (fun _ => Ev.now _) (fun c2 => absurd (show _ by omega) c2)
  ·rw [pNum_small (show n < 10 by omega), show n % 10 = n by omega]
   exact Ev.now _
def fracL : List ByteArray := [(⟨#[]⟩ : ByteArray), (⟨#[46, 49, 50, 53]⟩ : ByteArray), (⟨#[46, 50, 53]⟩ : ByteArray), (⟨#[46, 51, 55, 53]⟩ : ByteArray), (⟨#[46, 53]⟩ : ByteArray), (⟨#[46, 54, 50, 53]⟩ : ByteArray), (⟨#[46, 55, 53]⟩ : ByteArray), (⟨#[46, 56, 55, 53]⟩ : ByteArray)]
def fracT (r : Nat) : ByteArray := rdOf ByteArray.empty fracL (r : Int)
def sgnT (x : Int) : ByteArray := if x < 0 then ⟨#[45]⟩ else ⟨#[]⟩
def pFmt (x : Int) : ByteArray := if -4096 ≤ x ∧ x ≤ 4096 then sgnT x ++ pNum ((x.natAbs / 8 : Nat) : Int) ++ fracT (x.natAbs % 8) else ⟨#[]⟩
theorem fracT_size (r : Nat) (h : r < 8) : (fracT r).size ≤ 4 := by
 have : r = 0 ∨ r = 1 ∨ r = 2 ∨ r = 3 ∨ r = 4 ∨ r = 5 ∨ r = 6 ∨ r = 7 := by omega
 rcases this with rfl | rfl | rfl | rfl | rfl | rfl | rfl | rfl <;> decide
theorem sgnT_size (x : Int) : (sgnT x).size ≤ 1 := by
 unfold sgnT; split <;> decide
theorem pFmt_size (x : Int) : (pFmt x).size ≤ 1000 := by
 unfold pFmt
 split
 ·rename_i h
  rw [ByteArray.size_append, ByteArray.size_append]
  have h1 := sgnT_size x
  have h2 := pNum_size (x.natAbs / 8)
  have h3 := fracT_size (x.natAbs % 8) (by omega)
  omega
 ·show 0 ≤ 1000
  omega
theorem trim_frac (r : Nat) (h1 : 1 ≤ r) (h7 : r ≤ 7) : ∃ s t, pNum ((1000 + r * 125 : Nat) : Int) = s ∧ s.size = 4 ∧ strings_TrimRight.f (s.extract 1 s.size) (⟨#[48]⟩ : ByteArray) = some t ∧ t.size ≤ 3 ∧ (⟨#[46]⟩ : ByteArray) ++ t = fracT r := by
 have : r = 1 ∨ r = 2 ∨ r = 3 ∨ r = 4 ∨ r = 5 ∨ r = 6 ∨ r = 7 := by omega
 rcases this with rfl | rfl | rfl | rfl | rfl | rfl | rfl
 ·exact ⟨⟨#[49, 49, 50, 53]⟩, ⟨#[49, 50, 53]⟩, by rw [pNum_nn]; simp [Go.Lib.decDigits], rfl, rfl, by decide, rfl⟩
 ·exact ⟨⟨#[49, 50, 53, 48]⟩, ⟨#[50, 53]⟩, by rw [pNum_nn]; simp [Go.Lib.decDigits], rfl, rfl, by decide, rfl⟩
 ·exact ⟨⟨#[49, 51, 55, 53]⟩, ⟨#[51, 55, 53]⟩, by rw [pNum_nn]; simp [Go.Lib.decDigits], rfl, rfl, by decide, rfl⟩
 ·exact ⟨⟨#[49, 53, 48, 48]⟩, ⟨#[53]⟩, by rw [pNum_nn]; simp [Go.Lib.decDigits], rfl, rfl, by decide, rfl⟩
 ·exact ⟨⟨#[49, 54, 50, 53]⟩, ⟨#[54, 50, 53]⟩, by rw [pNum_nn]; simp [Go.Lib.decDigits], rfl, rfl, by decide, rfl⟩
 ·exact ⟨⟨#[49, 55, 53, 48]⟩, ⟨#[55, 53]⟩, by rw [pNum_nn]; simp [Go.Lib.decDigits], rfl, rfl, by decide, rfl⟩
 ·exact ⟨⟨#[49, 56, 55, 53]⟩, ⟨#[56, 55, 53]⟩, by rw [pNum_nn]; simp [Go.Lib.decDigits], rfl, rfl, by decide, rfl⟩
theorem impl_FormatMeasure_j0 (y : Nat) (hy : y ≤ 4096) (s : ByteArray) (hs : s.size ≤ 1) : Ev (fun k => impl_FormatMeasure.j0 k (y : Int) s) (s ++ pNum ((y / 8 : Nat) : Int) ++ fracT (y % 8)) := by
 have e1 : wrap64 (Int.tdiv (y : Int) 8) = ((y / 8 : Nat) : Int) := by
  rw [show (8 : Int) = ((8 : Nat) : Int) from rfl, tdivn]; unfold wrap64; omega
 have e2 : Int.tmod (y : Int) 8 = ((y % 8 : Nat) : Int) := by rw [show (8 : Int) = ((8 : Nat) : Int) from rfl, tmodn]
 have e3 : wrap64 (1000 + wrap64 (((y % 8 : Nat) : Int) * 125)) = ((1000 + (y % 8) * 125 : Nat) : Int) := by unfold wrap64; omega
 have hn := pNum_size (y / 8)
 refine ev_succ ?_
 simp only [impl_FormatMeasure.j0, e1, e2, e3]
 rw [impl_FormatNumber_eq _ (by omega) (by omega), Option.bind_some]
 refine ev_ite (fun _ => ?_) (fun c => absurd (show _ by omega) c)
 refine ev_ite (fun c => ?_) (fun c => ?_)
 ·obtain ⟨q, t, hq, hqs, ht, hts, hf⟩ := trim_frac (y % 8) (by omega) (by omega)
  rw [impl_FormatNumber_eq _ (by omega) (by omega), Option.bind_some, hq]
  refine ev_ite (fun _ => ?_) (fun c => absurd (show _ by omega) c)
  rw [ht, Option.bind_some, hf]
  have h4 := fracT_size (y % 8) (by omega)
  have h5 : (s ++ pNum ((y / 8 : Nat) : Int)).size = s.size + (pNum ((y / 8 : Nat) : Int)).size := ByteArray.size_append ..
  refine ev_ite (fun _ => ?_) (fun c => absurd (show _ by omega) c)
  exact ev_ite (fun _ => Ev.now _) (fun c => absurd (show _ by omega) c)
 ·have h0 : y % 8 = 0 := by omega
  rw [h0]
  have : fracT 0 = (⟨#[]⟩ : ByteArray) := rfl
  rw [this]
  have h6 : ∀ z : ByteArray, z ++ (⟨#[]⟩ : ByteArray) = z := fun z => by apply ByteArray.ext; simp [ByteArray.data_append]
  rw [h6]
  exact Ev.now _
theorem impl_FormatMeasure_ev (x : Int) : Ev (fun k => impl_FormatMeasure.f k x) (pFmt x) := by
 simp only [impl_FormatMeasure.f, impl_IsMeasure_eq, Option.bind_some, pMeas', pFmt]
 refine ev_ite (fun h => ?_) (fun h => ?_)
 ·simp only [Bool.and_eq_true, decide_eq_true_eq] at h
  rw [if_pos h]
  unfold sgnT
  refine ev_ite (fun c => ?_) (fun c => ?_)
  ·rw [if_pos c, show wrap64 (-x) = ((x.natAbs : Nat) : Int) by unfold wrap64; omega]
   exact impl_FormatMeasure_j0 x.natAbs (by omega) (⟨#[45]⟩ : ByteArray) (by decide)
  ·rw [if_neg c]
   have := impl_FormatMeasure_j0 x.natAbs (by omega) (⟨#[]⟩ : ByteArray) (by decide)
   rw [show ((x.natAbs : Nat) : Int) = x by omega] at this
   exact this
 ·have h' : ¬ (-4096 ≤ x ∧ x ≤ 4096) := by simpa using h
  rw [if_neg h']; exact Ev.now _
theorem spec_FormatMeasure_ev (x : Int) : Ev (fun k => spec_FormatMeasure.f k x) (pFmt x) := by
 have key : ∀ (y : Nat) (s : ByteArray), y ≤ 4096 → s.size ≤ 1 → Ev (fun k => (spec_FormatNumber.f k ((y / 8 : Nat) : Int)).bind fun t133 => (if s.size + t133.size ≤ 9223372036854775807 then ((some fracL).bind fun y134 => (if 0 ≤ ((y % 8 : Nat) : Int) then (if ((y % 8 : Nat) : Int) < (y134.length : Int) then (if (s ++ t133).size + (rdOf ByteArray.empty y134 ((y % 8 : Nat) : Int)).size ≤ 9223372036854775807 then (some ((s ++ t133) ++ (rdOf ByteArray.empty y134 ((y % 8 : Nat) : Int)))) else (none)) else (none)) else (none))) else (none))) (s ++ pNum ((y / 8 : Nat) : Int) ++ fracT (y % 8)) := by
  intro y s hy hs
  have hn := pNum_size (y / 8)
  have h4 := fracT_size (y % 8) (by omega)
  have h5 : (s ++ pNum ((y / 8 : Nat) : Int)).size = s.size + (pNum ((y / 8 : Nat) : Int)).size := ByteArray.size_append ..
  refine Ev.bind (spec_FormatNumber_ev (y / 8) (by omega)) ?_
  refine ev_ite (fun _ => ?_) (fun c => absurd (show _ by omega) c)
  simp only [Option.bind_some]
  refine ev_ite (fun _ => ?_) (fun c => absurd (show _ by omega) c)
  refine ev_ite (fun _ => ?_) (fun c => absurd (show ((y % 8 : Nat) : Int) < (fracL.length : Int) by show _ < (8 : Int); omega) c)
  change Ev (fun _ => if (s ++ pNum ((y / 8 : Nat) : Int)).size + (fracT (y % 8)).size ≤ 9223372036854775807 then some (s ++ pNum ((y / 8 : Nat) : Int) ++ fracT (y % 8)) else none) _
  exact ev_ite (fun _ => Ev.now _) (fun c => absurd (show _ by omega) c)
 simp only [spec_FormatMeasure.f, spec_IsMeasure_eq, Option.bind_some, pMeas, pFmt]
 refine ev_ite (fun h => ?_) (fun h => ?_)
 ·simp only [Bool.and_eq_true, decide_eq_true_eq] at h
  rw [if_pos h]
  unfold sgnT
  refine ev_ite (fun c => ?_) (fun c => ?_)
  ·rw [if_pos c, show wrap64 (-x) = ((x.natAbs : Nat) : Int) by unfold wrap64; omega]
   have e1 : wrap64 (Int.tdiv ((x.natAbs : Nat) : Int) 8) = ((x.natAbs / 8 : Nat) : Int) := by
    rw [show (8 : Int) = ((8 : Nat) : Int) from rfl, tdivn]; unfold wrap64; omega
   have e2 : Int.tmod ((x.natAbs : Nat) : Int) 8 = ((x.natAbs % 8 : Nat) : Int) := by rw [show (8 : Int) = ((8 : Nat) : Int) from rfl, tmodn]
   rw [e1, e2]
   exact key x.natAbs (⟨#[45]⟩ : ByteArray) (by omega) (by decide)
  ·rw [if_neg c]
   have hx : ((x.natAbs : Nat) : Int) = x := by omega
   have e1 : wrap64 (Int.tdiv x 8) = ((x.natAbs / 8 : Nat) : Int) := by
    rw [← hx, show (8 : Int) = ((8 : Nat) : Int) from rfl, tdivn]; unfold wrap64; omega
   have e2 : Int.tmod x 8 = ((x.natAbs % 8 : Nat) : Int) := by rw [← hx, show (8 : Int) = ((8 : Nat) : Int) from rfl, tmodn]; rfl
   rw [e1, e2]
   exact key x.natAbs (⟨#[]⟩ : ByteArray) (by omega) (by decide)
 ·have h' : ¬ (-4096 ≤ x ∧ x ≤ 4096) := by simpa using h
  rw [if_neg h']; exact Ev.now _
theorem nmR_size {a : ByteArray} : ∀ (d i : Nat), nmR a d i = true → a.size ≤ 8
 | 0, i, h => by
  unfold nmR at h
  simp only [Bool.and_eq_true, decide_eq_true_eq] at h
  omega
 | d + 1, i, h => by
  unfold nmR at h
  rw [Bool.and_eq_true] at h
  exact nmR_size d (i + 1) h.2
theorem pName_size {a : ByteArray} (h : pName a = true) : a.size ≤ 8 := nmR_size _ _ h
def pPlaceT (x y : Int) : ByteArray := if pPlace x y = true then ((pFmt x ++ (if y < 0 then (⟨#[]⟩ : ByteArray) else ⟨#[43]⟩)) ++ pFmt y) ++ (⟨#[105]⟩ : ByteArray) else ⟨#[]⟩
theorem pPlaceT_size (x y : Int) : (pPlaceT x y).size ≤ 3000 := by
 unfold pPlaceT
 have h1 := pFmt_size x
 have h2 := pFmt_size y
 have z1 : (⟨#[105]⟩ : ByteArray).size = 1 := rfl
 have z2 : (⟨#[43]⟩ : ByteArray).size = 1 := rfl
 have z0 : (⟨#[]⟩ : ByteArray).size = 0 := rfl
 split
 ·split <;> simp only [ByteArray.size_append] <;> omega
 ·omega
theorem ap_nil (z : ByteArray) : z ++ (⟨#[]⟩ : ByteArray) = z := by apply ByteArray.ext; simp [ByteArray.data_append]
theorem impl_FormatPlace_ev (x y : Int) : Ev (fun k => impl_FormatPlace.f k x y) (pPlaceT x y) := by
 have h1 := pFmt_size x
 have h2 := pFmt_size y
 have z1 : (⟨#[105]⟩ : ByteArray).size = 1 := rfl
 have z2 : (⟨#[43]⟩ : ByteArray).size = 1 := rfl
 have z0 : (⟨#[]⟩ : ByteArray).size = 0 := rfl
 simp only [impl_FormatPlace.f, impl_IsPlace_eq, Option.bind_some, pPlaceT]
 refine ev_ite (fun h => ?_) (fun h => ?_)
 ·rw [if_pos h]
  refine ev_ite (fun c => ?_) (fun c => ?_)
  ·rw [if_pos c]
   refine Ev.bind (impl_FormatMeasure_ev x) ?_
   refine ev_ite (fun _ => ?_) (fun c => absurd (show _ by omega) c)
   refine Ev.bind (impl_FormatMeasure_ev y) ?_
   refine ev_ite (fun _ => ?_) (fun c => absurd (show _ by simp only [ByteArray.size_append]; omega) c)
   exact ev_ite (fun _ => Ev.now _) (fun c => absurd (show _ by simp only [ByteArray.size_append]; omega) c)
  ·rw [if_neg c]
   refine Ev.bind (impl_FormatMeasure_ev x) ?_
   refine ev_ite (fun _ => ?_) (fun c => absurd (show _ by omega) c)
   refine Ev.bind (impl_FormatMeasure_ev y) ?_
   refine ev_ite (fun _ => ?_) (fun c => absurd (show _ by simp only [ByteArray.size_append]; omega) c)
   exact ev_ite (fun _ => Ev.now _) (fun c => absurd (show _ by simp only [ByteArray.size_append]; omega) c)
 ·rw [if_neg h]; exact Ev.now _
theorem spec_FormatPlace_ev (x y : Int) : Ev (fun k => spec_FormatPlace.f k x y) (pPlaceT x y) := by
 have h1 := pFmt_size x
 have h2 := pFmt_size y
 have z1 : (⟨#[105]⟩ : ByteArray).size = 1 := rfl
 have z2 : (⟨#[43]⟩ : ByteArray).size = 1 := rfl
 simp only [spec_FormatPlace.f, spec_IsPlace_eq, Option.bind_some, pPlaceT]
 refine ev_ite (fun h => ?_) (fun h => ?_)
 ·rw [if_pos h]
  refine Ev.bind (spec_FormatMeasure_ev x) ?_
  refine ev_ite (fun c => ?_) (fun c => ?_)
  ·rw [if_neg (show ¬ y < 0 by omega)]
   refine ev_ite (fun _ => ?_) (fun c => absurd (show _ by omega) c)
   refine Ev.bind (spec_FormatMeasure_ev y) ?_
   refine ev_ite (fun _ => ?_) (fun c => absurd (show _ by simp only [ByteArray.size_append]; omega) c)
   exact ev_ite (fun _ => Ev.now _) (fun c => absurd (show _ by simp only [ByteArray.size_append]; omega) c)
  ·rw [if_pos (show y < 0 by omega), ap_nil]
   refine Ev.bind (spec_FormatMeasure_ev y) ?_
   refine ev_ite (fun _ => ?_) (fun c => absurd (show _ by omega) c)
   exact ev_ite (fun _ => Ev.now _) (fun c => absurd (show _ by simp only [ByteArray.size_append]; omega) c)
 ·rw [if_neg h]; exact Ev.now _
def tPump : ByteArray := ⟨#[112, 117, 109, 112, 32]⟩
def tNozzle : ByteArray := ⟨#[110, 111, 122, 122, 108, 101, 32]⟩
def tLamp : ByteArray := ⟨#[108, 97, 109, 112, 32]⟩
def tMost : ByteArray := ⟨#[32, 109, 111, 115, 116, 32]⟩
def tOn : ByteArray := ⟨#[32, 111, 110, 32]⟩
def tAt : ByteArray := ⟨#[32, 97, 116, 32]⟩
def tHead : ByteArray := ⟨#[32, 104, 101, 97, 100, 105, 110, 103, 32]⟩
def tTilt : ByteArray := ⟨#[32, 116, 105, 108, 116, 32]⟩
theorem tz : tPump.size = 5 ∧ tNozzle.size = 7 ∧ tLamp.size = 5 ∧ tMost.size = 6 ∧ tOn.size = 4 ∧ tAt.size = 4 ∧ tHead.size = 9 ∧ tTilt.size = 6 := ⟨rfl, rfl, rfl, rfl, rfl, rfl, rfl, rfl⟩
theorem tPumpz : tPump = ⟨#[112, 117, 109, 112, 32]⟩ := rfl
theorem tNz : tNozzle = ⟨#[110, 111, 122, 122, 108, 101, 32]⟩ := rfl
theorem tLampz : tLamp = ⟨#[108, 97, 109, 112, 32]⟩ := rfl
theorem tMostz : tMost = ⟨#[32, 109, 111, 115, 116, 32]⟩ := rfl
theorem tOnz : tOn = ⟨#[32, 111, 110, 32]⟩ := rfl
theorem tAtz : tAt = ⟨#[32, 97, 116, 32]⟩ := rfl
theorem tHeadz : tHead = ⟨#[32, 104, 101, 97, 100, 105, 110, 103, 32]⟩ := rfl
theorem tTiltz : tTilt = ⟨#[32, 116, 105, 108, 116, 32]⟩ := rfl
def pDevT (n : ByteArray) (kd : Int) (ln : ByteArray) (x y hd ti mo : Int) : ByteArray :=
 if pDevice n kd ln x y hd ti mo = true then
  (if kd = 1 then ((tPump ++ n) ++ tMost) ++ pFmt mo
  else if kd = 2 then ((((((((((tNozzle ++ n) ++ tOn) ++ ln) ++ tAt) ++ pPlaceT x y) ++ tHead) ++ pNum hd) ++ tTilt) ++ pFmt ti) ++ tMost) ++ pFmt mo
  else ((((tLamp ++ n) ++ tOn) ++ ln) ++ tAt) ++ pPlaceT x y)
 else ⟨#[]⟩
theorem pDev_num {n : ByteArray} {kd : Int} {ln : ByteArray} {x y hd ti mo : Int} (h : pDevice n kd ln x y hd ti mo = true) : n.size ≤ 8 ∧ (¬ kd = 1 → ln.size ≤ 8) ∧ (kd = 2 → 0 ≤ hd ∧ hd ≤ 3) := by
 unfold pDevice at h
 rw [Bool.and_eq_true] at h
 obtain ⟨h1, h2⟩ := h
 refine ⟨pName_size h1, fun k1 => ?_, fun k2 => ?_⟩
 ·rw [if_neg k1] at h2
  by_cases k2 : kd = 2
  ·rw [if_pos k2] at h2
   simp only [pLineOk, Bool.and_eq_true] at h2
   exact pName_size h2.1.1
  ·rw [if_neg k2] at h2
   by_cases k3 : kd = 3
   ·rw [if_pos k3] at h2
    simp only [pLineOk, Bool.and_eq_true] at h2
    exact pName_size h2.1.1
   ·rw [if_neg k3] at h2; cases h2
 ·rw [if_neg (by omega), if_pos k2] at h2
  have h3 := h2
  simp only [pJet, pHead, Bool.and_eq_true, decide_eq_true_eq] at h3
  omega
theorem impl_FormatDevice_ev (n : ByteArray) (kd : Int) (ln : ByteArray) (x y hd ti mo : Int) (hn : n.size ≤ 9223372036854775807) (hl : ln.size ≤ 9223372036854775807) : Ev (fun k => impl_FormatDevice.f k n kd ln x y hd ti mo) (pDevT n kd ln x y hd ti mo) := by
 unfold impl_FormatDevice.f pDevT
 refine Ev.bind (impl_IsDevice_ev n kd ln x y hd ti mo hn hl) ?_
 refine ev_ite (fun h => ?_) (fun h => ?_)
 ·rw [if_pos h]
  obtain ⟨s1, s2, s3⟩ := pDev_num h
  have hp := pPlaceT_size x y
  have hm := pFmt_size mo
  have ht := pFmt_size ti
  obtain ⟨z1, z2, z3, z4, z5, z6, z7, z8⟩ := tz
  refine ev_ite (fun k1 => ?_) (fun k1 => ?_)
  ·rw [if_pos k1]
   rw [← tPumpz, ← tMostz]
   refine ev_ite (fun _ => ?_) (fun c => absurd (show _ by omega) c)
   refine ev_ite (fun _ => ?_) (fun c => absurd (show _ by simp only [ByteArray.size_append]; omega) c)
   refine Ev.bind (impl_FormatMeasure_ev mo) ?_
   exact ev_ite (fun _ => Ev.now _) (fun c => absurd (show _ by simp only [ByteArray.size_append]; omega) c)
  ·rw [if_neg k1]
   have s2' := s2 k1
   refine ev_ite (fun k2 => ?_) (fun k2 => ?_)
   ·rw [if_pos k2]
    obtain ⟨h0, h3⟩ := s3 k2
    have hh := pNum_sz hd h0 (by omega)
    rw [← tNz, ← tOnz, ← tAtz, ← tHeadz, ← tTiltz, ← tMostz]
    refine ev_ite (fun _ => ?_) (fun c => absurd (show _ by omega) c)
    refine ev_ite (fun _ => ?_) (fun c => absurd (show _ by simp only [ByteArray.size_append]; omega) c)
    refine ev_ite (fun _ => ?_) (fun c => absurd (show _ by simp only [ByteArray.size_append]; omega) c)
    refine ev_ite (fun _ => ?_) (fun c => absurd (show _ by simp only [ByteArray.size_append]; omega) c)
    refine Ev.bind (impl_FormatPlace_ev x y) ?_
    refine ev_ite (fun _ => ?_) (fun c => absurd (show _ by simp only [ByteArray.size_append]; omega) c)
    refine ev_ite (fun _ => ?_) (fun c => absurd (show _ by simp only [ByteArray.size_append]; omega) c)
    refine Ev.bind (impl_FormatNumber_ev hd (by omega) (by omega)) ?_
    refine ev_ite (fun _ => ?_) (fun c => absurd (show _ by simp only [ByteArray.size_append]; omega) c)
    refine ev_ite (fun _ => ?_) (fun c => absurd (show _ by simp only [ByteArray.size_append]; omega) c)
    refine Ev.bind (impl_FormatMeasure_ev ti) ?_
    refine ev_ite (fun _ => ?_) (fun c => absurd (show _ by simp only [ByteArray.size_append]; omega) c)
    refine ev_ite (fun _ => ?_) (fun c => absurd (show _ by simp only [ByteArray.size_append]; omega) c)
    refine Ev.bind (impl_FormatMeasure_ev mo) ?_
    exact ev_ite (fun _ => Ev.now _) (fun c => absurd (show _ by simp only [ByteArray.size_append]; omega) c)
   ·rw [if_neg k2]
    rw [← tLampz, ← tOnz, ← tAtz]
    refine ev_ite (fun _ => ?_) (fun c => absurd (show _ by omega) c)
    refine ev_ite (fun _ => ?_) (fun c => absurd (show _ by simp only [ByteArray.size_append]; omega) c)
    refine ev_ite (fun _ => ?_) (fun c => absurd (show _ by simp only [ByteArray.size_append]; omega) c)
    refine ev_ite (fun _ => ?_) (fun c => absurd (show _ by simp only [ByteArray.size_append]; omega) c)
    refine Ev.bind (impl_FormatPlace_ev x y) ?_
    exact ev_ite (fun _ => Ev.now _) (fun c => absurd (show _ by simp only [ByteArray.size_append]; omega) c)
 ·rw [if_neg h]; exact Ev.now _
theorem spec_FormatDevice_ev (n : ByteArray) (kd : Int) (ln : ByteArray) (x y hd ti mo : Int) (hn : n.size ≤ 9223372036854775807) (hl : ln.size ≤ 9223372036854775807) : Ev (fun k => spec_FormatDevice.f k n kd ln x y hd ti mo) (pDevT n kd ln x y hd ti mo) := by
 unfold spec_FormatDevice.f pDevT
 refine Ev.bind (spec_IsDevice_ev n kd ln x y hd ti mo hn hl) ?_
 refine ev_ite (fun h => ?_) (fun h => ?_)
 ·rw [if_pos h]
  obtain ⟨s1, s2, s3⟩ := pDev_num h
  have hp := pPlaceT_size x y
  have hm := pFmt_size mo
  have ht := pFmt_size ti
  obtain ⟨z1, z2, z3, z4, z5, z6, z7, z8⟩ := tz
  refine ev_ite (fun k1 => ?_) (fun k1 => ?_)
  ·rw [if_pos k1]
   rw [← tPumpz, ← tMostz]
   refine ev_ite (fun _ => ?_) (fun c => absurd (show _ by omega) c)
   refine ev_ite (fun _ => ?_) (fun c => absurd (show _ by simp only [ByteArray.size_append]; omega) c)
   refine Ev.bind (spec_FormatMeasure_ev mo) ?_
   exact ev_ite (fun _ => Ev.now _) (fun c => absurd (show _ by simp only [ByteArray.size_append]; omega) c)
  ·rw [if_neg k1]
   have s2' := s2 k1
   refine ev_ite (fun k2 => ?_) (fun k2 => ?_)
   ·rw [if_pos k2]
    obtain ⟨h0, h3⟩ := s3 k2
    have hh := pNum_sz hd h0 (by omega)
    have fh := spec_FormatNumber_ev hd.toNat (by omega)
    rw [show ((hd.toNat : Nat) : Int) = hd by omega] at fh
    rw [← tNz, ← tOnz, ← tAtz, ← tHeadz, ← tTiltz, ← tMostz]
    refine ev_ite (fun _ => ?_) (fun c => absurd (show _ by omega) c)
    refine ev_ite (fun _ => ?_) (fun c => absurd (show _ by simp only [ByteArray.size_append]; omega) c)
    refine ev_ite (fun _ => ?_) (fun c => absurd (show _ by simp only [ByteArray.size_append]; omega) c)
    refine ev_ite (fun _ => ?_) (fun c => absurd (show _ by simp only [ByteArray.size_append]; omega) c)
    refine Ev.bind (spec_FormatPlace_ev x y) ?_
    refine ev_ite (fun _ => ?_) (fun c => absurd (show _ by simp only [ByteArray.size_append]; omega) c)
    refine ev_ite (fun _ => ?_) (fun c => absurd (show _ by simp only [ByteArray.size_append]; omega) c)
    refine Ev.bind (fh) ?_
    refine ev_ite (fun _ => ?_) (fun c => absurd (show _ by simp only [ByteArray.size_append]; omega) c)
    refine ev_ite (fun _ => ?_) (fun c => absurd (show _ by simp only [ByteArray.size_append]; omega) c)
    refine Ev.bind (spec_FormatMeasure_ev ti) ?_
    refine ev_ite (fun _ => ?_) (fun c => absurd (show _ by simp only [ByteArray.size_append]; omega) c)
    refine ev_ite (fun _ => ?_) (fun c => absurd (show _ by simp only [ByteArray.size_append]; omega) c)
    refine Ev.bind (spec_FormatMeasure_ev mo) ?_
    exact ev_ite (fun _ => Ev.now _) (fun c => absurd (show _ by simp only [ByteArray.size_append]; omega) c)
   ·rw [if_neg k2]
    rw [← tLampz, ← tOnz, ← tAtz]
    refine ev_ite (fun _ => ?_) (fun c => absurd (show _ by omega) c)
    refine ev_ite (fun _ => ?_) (fun c => absurd (show _ by simp only [ByteArray.size_append]; omega) c)
    refine ev_ite (fun _ => ?_) (fun c => absurd (show _ by simp only [ByteArray.size_append]; omega) c)
    refine ev_ite (fun _ => ?_) (fun c => absurd (show _ by simp only [ByteArray.size_append]; omega) c)
    refine Ev.bind (spec_FormatPlace_ev x y) ?_
    exact ev_ite (fun _ => Ev.now _) (fun c => absurd (show _ by simp only [ByteArray.size_append]; omega) c)
 ·rw [if_neg h]; exact Ev.now _
def splA (c : UInt8) : List UInt8 → List UInt8 → List (List UInt8)
 | p, [] => [p]
 | p, b :: l => if b = c then p :: splA c [] l else splA c (p ++ [b]) l
theorem splA_word (c : UInt8) : ∀ (w p r : List UInt8), c ∉ w → splA c p (w ++ c :: r) = (p ++ w) :: splA c [] r
 | [], p, r, _ => by simp [splA]
 | b :: w, p, r, h => by
  have hb : ¬ b = c := fun e => h (by simp [e])
  rw [List.cons_append, splA, if_neg hb, splA_word c w (p ++ [b]) r (fun e => h (by simp [e]))]
  simp
theorem splA_last (c : UInt8) : ∀ (w p : List UInt8), c ∉ w → splA c p w = [p ++ w]
 | [], p, _ => by simp [splA]
 | b :: w, p, h => by
  have hb : ¬ b = c := fun e => h (by simp [e])
  rw [splA, if_neg hb, splA_last c w (p ++ [b]) (fun e => h (by simp [e]))]
  simp
theorem splA_len (c : UInt8) : ∀ (l p w : List UInt8), w ∈ splA c p l → w.length ≤ p.length + l.length
 | [], p, w, h => by simp [splA] at h; subst h; simp
 | b :: l, p, w, h => by
  rw [splA] at h
  split at h
  ·rcases List.mem_cons.1 h with rfl | h
   ·simp
   ·have := splA_len c l [] w h; simp at this ⊢; omega
  ·have := splA_len c l _ w h; simp at this ⊢; omega
theorem mem_first {c : UInt8} : ∀ {l : List UInt8}, c ∈ l → ∃ w r, l = w ++ c :: r ∧ c ∉ w
 | b :: l, h => by
  by_cases e : b = c
  ·exact ⟨[], l, by rw [e]; rfl, by simp⟩
  ·have h' : c ∈ l := by
    rcases List.mem_cons.1 h with h | h
    ·exact absurd h.symm e
    ·exact h
   obtain ⟨w, r, e1, e2⟩ := mem_first h'
   exact ⟨b :: w, r, by rw [e1]; rfl, by simp [e2, Ne.symm e]⟩
theorem index_one {c : UInt8} : ∀ (w r : List UInt8), c ∉ w → Go.Lib.index (w ++ c :: r) [c] = (w.length : Int)
 | [], r, _ => by simp [Go.Lib.index, List.isPrefixOf]
 | b :: w, r, h => by
  have hb : ¬ c = b := fun e => h (by simp [e])
  have ih := index_one w r (fun e => h (List.mem_cons_of_mem _ e))
  have hp : ¬ ([c].isPrefixOf (b :: (w ++ c :: r)) = true) := by simp [List.isPrefixOf, hb]
  have hq : ¬ (((w.length : Int) == -1) = true) := by simp only [beq_iff_eq]; omega
  rw [List.cons_append, Go.Lib.index, if_neg hp, ih, if_neg hq]
  simp
theorem index_none {c : UInt8} : ∀ (w : List UInt8), c ∉ w → Go.Lib.index w [c] = -1
 | [], _ => by simp [Go.Lib.index]
 | b :: w, h => by
  have hb : ¬ c = b := fun e => h (by simp [e])
  rw [Go.Lib.index, if_neg (by simp [List.isPrefixOf, hb]), index_none w (fun e => h (by simp [e])), if_pos (by decide)]
theorem splitK_eq (c : UInt8) : ∀ (k : Nat) (l : List UInt8), l.count c ≤ k → Go.Lib.splitK [c] 0 k l = splA c [] l
 | 0, l, h => by
  have hc : c ∉ l := fun m => by have := List.count_pos_iff.2 m; omega
  rw [Go.Lib.splitK, splA_last c l [] hc, List.nil_append]
 | k + 1, l, h => by
  by_cases m : c ∈ l
  ·obtain ⟨w, r, rfl, hw⟩ := mem_first m
   have hr : r.count c ≤ k := by
    simp [List.count_append, List.count_cons] at h; omega
   rw [Go.Lib.splitK, index_one w r hw, if_neg (show ¬ (((w.length : Int) == -1) = true) by simp only [beq_iff_eq]; omega), splA_word c w [] r hw]
   have e1 : (w ++ c :: r).take ((w.length : Int).toNat + 0) = w := by simp
   have e2 : (w ++ c :: r).drop ((w.length : Int).toNat + [c].length) = r := by simp [List.drop_append]
   rw [e1, e2, splitK_eq c k r hr, List.nil_append]
  ·rw [Go.Lib.splitK, index_none l m, if_pos (by decide), splA_last c l [] m, List.nil_append]
theorem impl_SplitAt_eq (s : ByteArray) (c : UInt8) (hs : s.size < 4294967281) : ∃ L, impl_SplitAt.f s (⟨#[c]⟩ : ByteArray) = some L ∧ L.map (fun x => x.data.toList) = splA c [] s.data.toList := by
 refine ⟨Go.Lib.splitB ⟨#[c]⟩ 0 (Go.Lib.countB s ⟨#[c]⟩) s, ?_, ?_⟩
 ·unfold impl_SplitAt.f strings_Split.f
  rw [if_neg (by rw [ByteArray.toList_eq]; simp), if_pos ⟨hs, by show 1 ≤ 1; omega⟩]; rfl
 ·rw [Go.Lib.splitB_data]
  refine splitK_eq c _ _ ?_
  have : Go.Lib.countB s ⟨#[c]⟩ = s.data.toList.count c := Go.Lib.count_one ..
  omega
def ud (d : Nat) : UInt8 := UInt8.ofNat (48 + d)
theorem ud_nat {d : Nat} (h : d < 10) : (ud d).toNat = 48 + d := by
 unfold ud; rw [UInt8.toNat_ofNat']; omega
theorem num_cases (n : Nat) (h : n ≤ 999) : (n < 10 ∧ pNum (n : Int) = ⟨#[ud n]⟩) ∨ (10 ≤ n ∧ n < 100 ∧ pNum (n : Int) = ⟨#[ud (n / 10), ud (n % 10)]⟩) ∨ (100 ≤ n ∧ pNum (n : Int) = ⟨#[ud (n / 100), ud (n / 10 % 10), ud (n % 10)]⟩) := by
 by_cases h1 : n < 10
 ·exact .inl ⟨h1, pNum_small h1⟩
 ·by_cases h2 : n < 100
  ·refine .inr (.inl ⟨by omega, h2, ?_⟩)
   rw [pNum_step h1, pNum_small (show n / 10 < 10 by omega)]; rfl
  ·refine .inr (.inr ⟨by omega, ?_⟩)
   rw [pNum_step h1, pNum_step (show ¬ n / 10 < 10 by omega), pNum_small (show n / 10 / 10 < 10 by omega), Nat.div_div_eq_div_mul]; rfl
theorem num_digits : ∀ (n : Nat), ∀ b ∈ (pNum (n : Int)).data.toList, 48 ≤ b.toNat ∧ b.toNat ≤ 57 := by
 intro n
 induction n using Nat.strongRecOn with
 | ind n ih =>
  intro b hb
  by_cases h1 : n < 10
  ·rw [pNum_small h1, show (⟨#[UInt8.ofNat (48 + n)]⟩ : ByteArray).data.toList = [UInt8.ofNat (48 + n)] from rfl, List.mem_singleton] at hb
   subst hb
   have := ud_nat h1; unfold ud at this; omega
  ·rw [pNum_step h1, ByteArray.data_append, Array.toList_append] at hb
   rcases List.mem_append.1 hb with hb | hb
   ·exact ih (n / 10) (by omega) b hb
   ·rw [show (⟨#[UInt8.ofNat (48 + n % 10)]⟩ : ByteArray).data.toList = [UInt8.ofNat (48 + n % 10)] from rfl, List.mem_singleton] at hb
    subst hb
    have := ud_nat (show n % 10 < 10 by omega); unfold ud at this; omega
theorem num_ne (n : Nat) : (pNum (n : Int)).data.toList ≠ [] := by
 by_cases h1 : n < 10
 ·rw [pNum_small h1]; simp
 ·rw [pNum_step h1, ByteArray.data_append, Array.toList_append]; simp
def dvl (l : List UInt8) : Nat := l.foldl (fun a b => 10 * a + (b.toNat - 48)) 0
theorem dvl_num : ∀ (n : Nat), dvl (pNum (n : Int)).data.toList = n := by
 intro n
 induction n using Nat.strongRecOn with
 | ind n ih =>
  by_cases h1 : n < 10
  ·rw [pNum_small h1]
   have := ud_nat h1; unfold ud at this
   show 10 * 0 + ((UInt8.ofNat (48 + n)).toNat - 48) = n
   omega
  ·rw [pNum_step h1, ByteArray.data_append, Array.toList_append]
   have := ud_nat (show n % 10 < 10 by omega); unfold ud at this
   have h2 := ih (n / 10) (by omega)
   unfold dvl at h2 ⊢
   rw [List.foldl_append, h2]
   show 10 * (n / 10) + ((UInt8.ofNat (48 + n % 10)).toNat - 48) = n
   omega
theorem bt_1 (a : UInt8) : bt (⟨#[a]⟩ : ByteArray) 0 = (a.toNat : Int) := rfl
theorem bt_2 (a b : UInt8) : bt (⟨#[a, b]⟩ : ByteArray) 0 = (a.toNat : Int) ∧ bt (⟨#[a, b]⟩ : ByteArray) 1 = (b.toNat : Int) := ⟨rfl, rfl⟩
theorem bt_3 (a b c : UInt8) : bt (⟨#[a, b, c]⟩ : ByteArray) 0 = (a.toNat : Int) ∧ bt (⟨#[a, b, c]⟩ : ByteArray) 1 = (b.toNat : Int) ∧ bt (⟨#[a, b, c]⟩ : ByteArray) 2 = (c.toNat : Int) := ⟨rfl, rfl, rfl⟩
theorem impl_PN_l0_tot (s : ByteArray) (hs : s.size < 4611686018427387904) : ∀ (d i : Nat) (x : Int), i + d = s.size → ∃ r, Ev (fun k => impl_ParseNumber.l0 k s x (s.size : Int) (i : Int)) r := by
 intro d
 induction d with
 | zero =>
  intro i x h
  refine ⟨(x, true), ev_succ ?_⟩
  simp only [impl_ParseNumber.l0, if_neg (show ¬ (i : Int) < (s.size : Int) by omega)]
  exact Ev.now _
 | succ d ih =>
  intro i x h
  by_cases c1 : bt s (i : Int) < 48
  ·refine ⟨(0, false), ev_succ ?_⟩
   simp only [impl_ParseNumber.l0, if_pos (show (i : Int) < (s.size : Int) by omega), if_pos (nn _), if_pos c1]
   exact Ev.now _
  ·by_cases c2 : bt s (i : Int) > 57
   ·refine ⟨(0, false), ev_succ ?_⟩
    simp only [impl_ParseNumber.l0, if_pos (show (i : Int) < (s.size : Int) by omega), if_pos (nn _), if_neg c1, if_pos c2]
    exact Ev.now _
   ·obtain ⟨r, e⟩ := ih (i + 1) (wrap64 ((wrap64 (10 * x)) + ((bt s (i : Int) - 48) % 256))) (by omega)
    refine ⟨r, ev_succ ?_⟩
    simp only [impl_ParseNumber.l0, if_pos (show (i : Int) < (s.size : Int) by omega), if_pos (nn _), if_neg c1, if_neg c2]
    rw [show wrap64 ((i : Int) + 1) = ((i + 1 : Nat) : Int) by unfold wrap64; omega]
    exact e
theorem impl_PN_j0_tot (s : ByteArray) (hs : s.size < 4611686018427387904) (b : Bool) : ∃ r, Ev (fun k => impl_ParseNumber.j0 k s b) r := by
 cases b
 ·obtain ⟨r, e⟩ := impl_PN_l0_tot s hs s.size 0 0 (by omega)
  refine ⟨r, ev_succ ?_⟩
  simp only [impl_ParseNumber.j0, Bool.false_eq_true, if_false]
  exact e
 ·refine ⟨((0 : Int), false), ev_succ ?_⟩
  simp only [impl_ParseNumber.j0, if_true]
  exact Ev.now _
theorem impl_ParseNumber_tot (s : ByteArray) (hs : s.size < 4611686018427387904) : ∃ r, Ev (fun k => impl_ParseNumber.f k s) r := by
 by_cases c1 : (s.size : Int) = 0
 ·obtain ⟨r, e⟩ := impl_PN_j0_tot s hs true
  refine ⟨r, ?_⟩
  simp only [impl_ParseNumber.f, if_pos c1]; exact e
 ·by_cases c2 : (s.size : Int) > 3
  ·obtain ⟨r, e⟩ := impl_PN_j0_tot s hs true
   refine ⟨r, ?_⟩
   simp only [impl_ParseNumber.f, if_neg c1, if_pos c2]; exact e
  ·by_cases c3 : (s.size : Int) > 1
   ·obtain ⟨r, e⟩ := impl_PN_j0_tot s hs (bt s 0 == 48)
    refine ⟨r, ?_⟩
    simp only [impl_ParseNumber.f, if_neg c1, if_neg c2, if_pos c3, if_pos (show 0 < (s.size : Int) by omega)]; exact e
   ·obtain ⟨r, e⟩ := impl_PN_j0_tot s hs false
    refine ⟨r, ?_⟩
    simp only [impl_ParseNumber.f, if_neg c1, if_neg c2, if_neg c3]; exact e
theorem impl_PN_step {s : ByteArray} {i d : Nat} {x : Int} {r : Int × Bool} (hi : i < s.size) (hi2 : i < 100) (hb : bt s (i : Int) = ((48 + d : Nat) : Int)) (hd : d < 10) (hx0 : 0 ≤ x) (hx : x ≤ 1000000)
  (h : Ev (fun k => impl_ParseNumber.l0 k s (10 * x + (d : Int)) (s.size : Int) ((i + 1 : Nat) : Int)) r) : Ev (fun k => impl_ParseNumber.l0 k s x (s.size : Int) (i : Int)) r := by
 refine ev_succ ?_
 simp only [impl_ParseNumber.l0, if_pos (show (i : Int) < (s.size : Int) by omega), if_pos (nn _), hb, if_neg (show ¬ ((48 + d : Nat) : Int) < 48 by omega), if_neg (show ¬ ((48 + d : Nat) : Int) > 57 by omega)]
 rw [show wrap64 ((i : Int) + 1) = ((i + 1 : Nat) : Int) by unfold wrap64; omega, show wrap64 (wrap64 (10 * x) + (((48 + d : Nat) : Int) - 48) % 256) = 10 * x + (d : Int) by unfold wrap64; omega]
 exact h
theorem impl_PN_end {s : ByteArray} {x : Int} : Ev (fun k => impl_ParseNumber.l0 k s x (s.size : Int) (s.size : Int)) (x, true) := by
 refine ev_succ ?_
 simp only [impl_ParseNumber.l0, if_neg (show ¬ (s.size : Int) < (s.size : Int) by omega)]
 exact Ev.now _
theorem impl_PN_j0 {s : ByteArray} {r : Int × Bool} (h : Ev (fun k => impl_ParseNumber.l0 k s 0 (s.size : Int) ((0 : Nat) : Int)) r) : Ev (fun k => impl_ParseNumber.j0 k s false) r := by
 refine ev_succ ?_
 simp only [impl_ParseNumber.j0, Bool.false_eq_true, if_false]
 exact h
theorem impl_ParseNumber_num (n : Nat) (h : n ≤ 999) : Ev (fun k => impl_ParseNumber.f k (pNum (n : Int))) ((n : Int), true) := by
 rcases num_cases n h with ⟨h1, e⟩ | ⟨h1, h2, e⟩ | ⟨h1, e⟩
 ·rw [e]
  have hz : (⟨#[ud n]⟩ : ByteArray).size = 1 := rfl
  have b0 : bt (⟨#[ud n]⟩ : ByteArray) ((0 : Nat) : Int) = ((48 + n : Nat) : Int) := by rw [show ((0 : Nat) : Int) = 0 from rfl, bt_1, ud_nat h1]
  simp only [impl_ParseNumber.f, hz, if_neg (show ¬ ((1 : Nat) : Int) = 0 by omega), if_neg (show ¬ ((1 : Nat) : Int) > 3 by omega), if_neg (show ¬ ((1 : Nat) : Int) > 1 by omega)]
  refine impl_PN_j0 (impl_PN_step (by omega) (by omega) b0 h1 (by omega) (by omega) ?_)
  rw [show 10 * (0 : Int) + (n : Int) = (n : Int) by omega]
  exact impl_PN_end
 ·rw [e]
  have hz : (⟨#[ud (n / 10), ud (n % 10)]⟩ : ByteArray).size = 2 := rfl
  obtain ⟨t0, t1⟩ := bt_2 (ud (n / 10)) (ud (n % 10))
  rw [ud_nat (show n / 10 < 10 by omega)] at t0
  rw [ud_nat (show n % 10 < 10 by omega)] at t1
  simp only [impl_ParseNumber.f, hz, t0, if_neg (show ¬ ((2 : Nat) : Int) = 0 by omega), if_neg (show ¬ ((2 : Nat) : Int) > 3 by omega), if_pos (show ((2 : Nat) : Int) > 1 by omega), if_pos (show (0 : Int) < ((2 : Nat) : Int) by omega)]
  rw [show (((48 + n / 10 : Nat) : Int) == 48) = false by rw [beq_eq_false_iff_ne]; omega]
  refine impl_PN_j0 (impl_PN_step (by omega) (by omega) t0 (by omega) (by omega) (by omega) (impl_PN_step (by omega) (by omega) t1 (by omega) (by omega) (by omega) ?_))
  rw [show 10 * (10 * (0 : Int) + ((n / 10 : Nat) : Int)) + ((n % 10 : Nat) : Int) = (n : Int) by omega]
  exact impl_PN_end
 ·rw [e]
  have hz : (⟨#[ud (n / 100), ud (n / 10 % 10), ud (n % 10)]⟩ : ByteArray).size = 3 := rfl
  obtain ⟨t0, t1, t2⟩ := bt_3 (ud (n / 100)) (ud (n / 10 % 10)) (ud (n % 10))
  rw [ud_nat (show n / 100 < 10 by omega)] at t0
  rw [ud_nat (show n / 10 % 10 < 10 by omega)] at t1
  rw [ud_nat (show n % 10 < 10 by omega)] at t2
  simp only [impl_ParseNumber.f, hz, t0, if_neg (show ¬ ((3 : Nat) : Int) = 0 by omega), if_neg (show ¬ ((3 : Nat) : Int) > 3 by omega), if_pos (show ((3 : Nat) : Int) > 1 by omega), if_pos (show (0 : Int) < ((3 : Nat) : Int) by omega)]
  rw [show (((48 + n / 100 : Nat) : Int) == 48) = false by rw [beq_eq_false_iff_ne]; omega]
  refine impl_PN_j0 (impl_PN_step (by omega) (by omega) t0 (by omega) (by omega) (by omega) (impl_PN_step (by omega) (by omega) t1 (by omega) (by omega) (by omega) (impl_PN_step (by omega) (by omega) t2 (by omega) (by omega) (by omega) ?_)))
  rw [show 10 * (10 * (10 * (0 : Int) + ((n / 100 : Nat) : Int)) + ((n / 10 % 10 : Nat) : Int)) + ((n % 10 : Nat) : Int) = (n : Int) by omega]
  exact impl_PN_end
theorem ba_ext {a b : ByteArray} (h : a.data.toList = b.data.toList) : a = b := by
 obtain ⟨x⟩ := a
 obtain ⟨y⟩ := b
 exact congrArg ByteArray.mk (Array.toList_inj.1 h)
theorem ba_tl (a : ByteArray) : a.toList = a.data.toList := ByteArray.toList_eq a
theorem ba_sz (a : ByteArray) : a.data.toList.length = a.size := by rw [Array.length_toList]; rfl
def sgnl (x : Int) : List UInt8 := if x < 0 then [45] else []
theorem sgnT_list (x : Int) : (sgnT x).data.toList = sgnl x := by
 unfold sgnT sgnl; split <;> rfl
def numl (x : Int) : List UInt8 := (pNum ((x.natAbs / 8 : Nat) : Int)).data.toList
def fracl (x : Int) : List UInt8 := (fracT (x.natAbs % 8)).data.toList
theorem pFmt_list {x : Int} (h0 : -4096 ≤ x) (h1 : x ≤ 4096) : (pFmt x).data.toList = sgnl x ++ (numl x ++ fracl x) := by
 unfold pFmt
 rw [if_pos ⟨h0, h1⟩, ByteArray.data_append, ByteArray.data_append, Array.toList_append, Array.toList_append, sgnT_list, List.append_assoc]; rfl
theorem fracT_cases (r : Nat) (h : r < 8) : ((fracT r).data.toList = [] ∧ r = 0) ∨ ∃ f, (fracT r).data.toList = 46 :: f ∧ f.length ≤ 3 ∧ (∀ b ∈ f, 48 ≤ b.toNat ∧ b.toNat ≤ 57) := by
 have : r = 0 ∨ r = 1 ∨ r = 2 ∨ r = 3 ∨ r = 4 ∨ r = 5 ∨ r = 6 ∨ r = 7 := by omega
 rcases this with rfl | rfl | rfl | rfl | rfl | rfl | rfl | rfl
 ·exact .inl ⟨rfl, rfl⟩
 ·exact .inr ⟨[49, 50, 53], rfl, by decide, by decide⟩
 ·exact .inr ⟨[50, 53], rfl, by decide, by decide⟩
 ·exact .inr ⟨[51, 55, 53], rfl, by decide, by decide⟩
 ·exact .inr ⟨[53], rfl, by decide, by decide⟩
 ·exact .inr ⟨[54, 50, 53], rfl, by decide, by decide⟩
 ·exact .inr ⟨[55, 53], rfl, by decide, by decide⟩
 ·exact .inr ⟨[56, 55, 53], rfl, by decide, by decide⟩
theorem fracT_inj {r q : Nat} (hr : r < 8) (hq : q < 8) (h : (fracT r).data.toList = (fracT q).data.toList) : r = q := by
 have key : ∀ a b : Fin 8, (fracT a.val).data.toList = (fracT b.val).data.toList → a = b := by decide
 exact congrArg Fin.val (key ⟨r, hr⟩ ⟨q, hq⟩ h)
def isD (b : UInt8) : Bool := decide (48 ≤ b.toNat) && decide (b.toNat ≤ 57)
theorem numl_D (x : Int) : ∀ b ∈ numl x, isD b = true := fun b hb => by
 have := num_digits _ b hb
 unfold isD; rw [decide_eq_true this.1, decide_eq_true this.2]; rfl
theorem numl_ne (x : Int) : numl x ≠ [] := num_ne _
theorem fracl_D (x : Int) : (fracl x).takeWhile isD = [] := by
 rcases fracT_cases (x.natAbs % 8) (by omega) with ⟨h, _⟩ | ⟨f, h, _⟩
 ·unfold fracl; rw [h]; rfl
 ·unfold fracl; rw [h]; rfl
theorem nf_take (x : Int) : (numl x ++ fracl x).takeWhile isD = numl x := by
 rw [List.takeWhile_append_of_pos (numl_D x), fracl_D, List.append_nil]
theorem numl_head (x : Int) : ∃ b l, numl x = b :: l ∧ ¬ b = 45 := by
 cases h : numl x with
 | nil => exact absurd h (numl_ne x)
 | cons b l =>
  refine ⟨b, l, rfl, fun e => ?_⟩
  have := numl_D x b (by rw [h]; simp)
  rw [e] at this; exact absurd this (by decide)
theorem pFmt_inj {x z : Int} (h0 : -4096 ≤ x) (h1 : x ≤ 4096) (h : (pFmt z).toList = (pFmt x).toList) : z = x := by
 rw [ba_tl, ba_tl, pFmt_list h0 h1] at h
 by_cases hz : -4096 ≤ z ∧ z ≤ 4096
 ·rw [pFmt_list hz.1 hz.2] at h
  obtain ⟨b, l, e1, e2⟩ := numl_head x
  obtain ⟨b', l', e1', e2'⟩ := numl_head z
  have fin : numl z ++ fracl z = numl x ++ fracl x → x.natAbs = z.natAbs := by
   intro hh
   have h3 : numl z = numl x := by rw [← nf_take z, hh, nf_take]
   rw [h3] at hh
   have h4 : fracl z = fracl x := List.append_cancel_left hh
   have h5 : z.natAbs / 8 = x.natAbs / 8 := by
    have a := dvl_num (z.natAbs / 8)
    have b := dvl_num (x.natAbs / 8)
    unfold numl at h3
    rw [h3, b] at a; omega
   have h6 : z.natAbs % 8 = x.natAbs % 8 := fracT_inj (by omega) (by omega) h4
   omega
  unfold sgnl at h
  by_cases c : z < 0 <;> by_cases c' : x < 0
  ·rw [if_pos c, if_pos c'] at h
   have := fin (List.append_cancel_left h)
   omega
  ·rw [if_pos c, if_neg c', e1] at h
   simp at h
   exact absurd h.1.symm e2
  ·rw [if_neg c, if_pos c', e1'] at h
   simp at h
   exact absurd h.1 e2'
  ·rw [if_neg c, if_neg c'] at h
   have := fin (List.append_cancel_left h)
   omega
 ·exfalso
  unfold pFmt at h
  rw [if_neg hz] at h
  have h2 := congrArg List.length h
  have h3 : numl x ≠ [] := numl_ne x
  have h4 := List.length_pos_iff.2 h3
  simp only [List.length_append] at h2
  change 0 = _ at h2
  omega
theorem dot_num (x : Int) : (46 : UInt8) ∉ sgnl x ++ numl x := by
 intro h
 rcases List.mem_append.1 h with h | h
 ·unfold sgnl at h; split at h
  ·simp at h
  ·cases h
 ·have := numl_D x 46 h; exact absurd this (by decide)
theorem cut_dot (x : Int) : ∃ f b, Go.Lib.cut (numl x ++ fracl x) [46] = (numl x, f, b) ∧ f.length ≤ 3 := by
 have hn : (46 : UInt8) ∉ numl x := fun h => dot_num x (List.mem_append.2 (.inr h))
 rcases fracT_cases (x.natAbs % 8) (by omega) with ⟨h, _⟩ | ⟨f, h, hf, _⟩
 ·refine ⟨[], false, ?_, by simp⟩
  have e : fracl x = [] := h
  rw [e, List.append_nil]
  unfold Go.Lib.cut
  rw [index_none _ hn, if_neg (by omega)]
 ·refine ⟨f, true, ?_, hf⟩
  have e : fracl x = 46 :: f := h
  rw [e]
  unfold Go.Lib.cut
  rw [index_one _ _ hn, if_pos (by omega)]
  simp [List.drop_append]
theorem impl_PM_l1 (s : ByteArray) (x9 x34 p q : Int) (r : Int × Bool)
  (h : ((pFmt p).toList = s.toList ∧ r = (p, true)) ∨ (¬ (pFmt p).toList = s.toList ∧ (pFmt q).toList = s.toList ∧ r = (q, true)) ∨ (¬ (pFmt p).toList = s.toList ∧ ¬ (pFmt q).toList = s.toList ∧ Ev (fun k => impl_ParseMeasure.l0 k s x9 (wrap64 (x34 + 1))) r)) :
  Ev (fun k => impl_ParseMeasure.l1 k s x9 x34 [p, q] 2 0) r := by
 have r0 : rd [p, q] 0 = p := rfl
 have r1 : rd [p, q] 1 = q := rfl
 have w1 : wrap64 ((0 : Int) + 1) = 1 := by unfold wrap64; omega
 have w2 : wrap64 ((1 : Int) + 1) = 2 := by unfold wrap64; omega
 have l2 : (([p, q] : List Int).length : Int) = 2 := rfl
 rcases h with ⟨h, rfl⟩ | ⟨h, h', rfl⟩ | ⟨h, h', e⟩
 ·refine ev_succ ?_
  simp only [impl_ParseMeasure.l1, l2, r0, if_pos (show (0 : Int) < 2 by omega), if_pos (show (0 : Int) ≤ 0 by omega)]
  refine Ev.bind (impl_FormatMeasure_ev p) ?_
  simp only [if_pos h]; exact Ev.now _
 ·refine ev_succ ?_
  simp only [impl_ParseMeasure.l1, l2, r0, if_pos (show (0 : Int) < 2 by omega), if_pos (show (0 : Int) ≤ 0 by omega), w1]
  refine Ev.bind (impl_FormatMeasure_ev p) ?_
  simp only [if_neg h]
  refine ev_succ ?_
  simp only [impl_ParseMeasure.l1, l2, r1, if_pos (show (1 : Int) < 2 by omega), if_pos (show (0 : Int) ≤ 1 by omega)]
  refine Ev.bind (impl_FormatMeasure_ev q) ?_
  simp only [if_pos h']; exact Ev.now _
 ·refine ev_succ ?_
  simp only [impl_ParseMeasure.l1, l2, r0, if_pos (show (0 : Int) < 2 by omega), if_pos (show (0 : Int) ≤ 0 by omega), w1]
  refine Ev.bind (impl_FormatMeasure_ev p) ?_
  simp only [if_neg h]
  refine ev_succ ?_
  simp only [impl_ParseMeasure.l1, l2, r1, if_pos (show (1 : Int) < 2 by omega), if_pos (show (0 : Int) ≤ 1 by omega), w2]
  refine Ev.bind (impl_FormatMeasure_ev q) ?_
  simp only [if_neg h']
  refine ev_succ ?_
  simp only [impl_ParseMeasure.l1, if_neg (show ¬ (2 : Int) < 2 by omega)]
  exact e
theorem impl_PM_l0_tot (s : ByteArray) (x9 : Int) : ∀ (d i : Nat), i + d = 8 → ∃ r, Ev (fun k => impl_ParseMeasure.l0 k s x9 (i : Int)) r := by
 intro d
 induction d with
 | zero =>
  intro i h
  refine ⟨((0 : Int), false), ev_succ ?_⟩
  simp only [impl_ParseMeasure.l0, if_neg (show ¬ (i : Int) < 8 by omega)]
  exact Ev.now _
 | succ d ih =>
  intro i h
  have hw : wrap64 ((i : Int) + 1) = ((i + 1 : Nat) : Int) := by unfold wrap64; omega
  obtain ⟨r', e'⟩ := ih (i + 1) (by omega)
  have l2 : ∀ a b : Int, (([a, b] : List Int).length : Int) = 2 := fun _ _ => rfl
  have main : ∃ r, Ev (fun k => impl_ParseMeasure.l1 k s x9 (i : Int) [wrap64 (x9 + (i : Int)), wrap64 ((wrap64 (-x9)) - (i : Int))] 2 0) r := by
   by_cases c1 : (pFmt (wrap64 (x9 + (i : Int)))).toList = s.toList
   ·exact ⟨_, impl_PM_l1 s _ _ _ _ _ (.inl ⟨c1, rfl⟩)⟩
   ·by_cases c2 : (pFmt (wrap64 ((wrap64 (-x9)) - (i : Int)))).toList = s.toList
    ·exact ⟨_, impl_PM_l1 s _ _ _ _ _ (.inr (.inl ⟨c1, c2, rfl⟩))⟩
    ·exact ⟨r', impl_PM_l1 s _ _ _ _ _ (.inr (.inr ⟨c1, c2, by rw [hw]; exact e'⟩))⟩
  obtain ⟨r, e⟩ := main
  refine ⟨r, ev_succ ?_⟩
  simp only [impl_ParseMeasure.l0, if_pos (show (i : Int) < 8 by omega), Option.bind_some, l2]
  exact e
theorem impl_PM_l0 {s : ByteArray} {x : Int} (h0 : -4096 ≤ x) (h1 : x ≤ 4096) (hs : s = pFmt x) : ∀ (d i : Nat), i + d = x.natAbs % 8 → Ev (fun k => impl_ParseMeasure.l0 k s ((8 * (x.natAbs / 8) : Nat) : Int) (i : Int)) (x, true) := by
 intro d
 induction d with
 | zero =>
  intro i h
  have l2 : ∀ a b : Int, (([a, b] : List Int).length : Int) = 2 := fun _ _ => rfl
  refine ev_succ ?_
  simp only [impl_ParseMeasure.l0, if_pos (show (i : Int) < 8 by omega), Option.bind_some, l2]
  rw [show wrap64 (((8 * (x.natAbs / 8) : Nat) : Int) + (i : Int)) = (x.natAbs : Int) by unfold wrap64; omega, show wrap64 (wrap64 (-((8 * (x.natAbs / 8) : Nat) : Int)) - (i : Int)) = -(x.natAbs : Int) by unfold wrap64; omega]
  by_cases c : x < 0
  ·refine impl_PM_l1 s _ _ _ _ _ (.inr (.inl ⟨fun e => ?_, ?_, ?_⟩))
   ·have := pFmt_inj h0 h1 (e.trans (by rw [hs])); omega
   ·rw [show -(x.natAbs : Int) = x by omega, hs]
   ·rw [show -(x.natAbs : Int) = x by omega]
  ·refine impl_PM_l1 s _ _ _ _ _ (.inl ⟨?_, ?_⟩)
   ·rw [show (x.natAbs : Int) = x by omega, hs]
   ·rw [show (x.natAbs : Int) = x by omega]
 | succ d ih =>
  intro i h
  have l2 : ∀ a b : Int, (([a, b] : List Int).length : Int) = 2 := fun _ _ => rfl
  refine ev_succ ?_
  simp only [impl_ParseMeasure.l0, if_pos (show (i : Int) < 8 by omega), Option.bind_some, l2]
  rw [show wrap64 (((8 * (x.natAbs / 8) : Nat) : Int) + (i : Int)) = ((8 * (x.natAbs / 8) + i : Nat) : Int) by unfold wrap64; omega, show wrap64 (wrap64 (-((8 * (x.natAbs / 8) : Nat) : Int)) - (i : Int)) = -((8 * (x.natAbs / 8) + i : Nat) : Int) by unfold wrap64; omega]
  refine impl_PM_l1 s _ _ _ _ _ (.inr (.inr ⟨fun e => ?_, fun e => ?_, ?_⟩))
  ·have := pFmt_inj h0 h1 (e.trans (by rw [hs])); omega
  ·have := pFmt_inj h0 h1 (e.trans (by rw [hs])); omega
  ·rw [show wrap64 ((i : Int) + 1) = ((i + 1 : Nat) : Int) by unfold wrap64; omega]
   exact ih (i + 1) (by omega)
theorem impl_PM_j0_tot (s : ByteArray) (n : Int) (b : Bool) : ∃ r, Ev (fun k => impl_ParseMeasure.j0 k s n b) r := by
 cases b
 ·obtain ⟨r, e⟩ := impl_PM_l0_tot s (wrap64 (8 * n)) 8 0 (by omega)
  refine ⟨r, ev_succ ?_⟩
  simp only [impl_ParseMeasure.j0, Bool.false_eq_true, if_false]
  exact e
 ·refine ⟨((0 : Int), false), ev_succ ?_⟩
  simp only [impl_ParseMeasure.j0, if_true]
  exact Ev.now _
theorem cut_le (l sep : List UInt8) : (Go.Lib.cut l sep).1.length ≤ l.length := by
 unfold Go.Lib.cut; split
 ·simp; omega
 ·simp
theorem trimPrefix_le (l p : List UInt8) : (Go.Lib.trimPrefix l p).length ≤ l.length := by
 unfold Go.Lib.trimPrefix; split <;> simp
theorem impl_ParseMeasure_tot (s : ByteArray) (hs : s.size < 4294967281) : ∃ r, Ev (fun k => impl_ParseMeasure.f k s) r := by
 have ht := trimPrefix_le s.data.toList [45]
 rw [ba_sz] at ht
 have hc := cut_le (Go.Lib.trimPrefix s.data.toList [45]) [46]
 obtain ⟨pn, epn⟩ := impl_ParseNumber_tot (⟨(Go.Lib.cut (Go.Lib.trimPrefix s.data.toList [45]) [46]).1.toArray⟩ : ByteArray) (by show (Array.size _) < _; rw [List.size_toArray]; omega)
 have hz : (⟨(Go.Lib.trimPrefix s.data.toList [45]).toArray⟩ : ByteArray).size < 4294967281 := by show (Array.size _) < _; rw [List.size_toArray]; omega
 by_cases c : pn.2 = true
 ·obtain ⟨r, e⟩ := impl_PM_j0_tot s pn.1 (decide (((⟨(Go.Lib.cut (Go.Lib.trimPrefix s.data.toList [45]) [46]).2.1.toArray⟩ : ByteArray).size : Int) > 3))
  refine ⟨r, ?_⟩
  simp only [impl_ParseMeasure.f, strings_TrimPrefix.f, strings_Cut.f, Option.bind_some, if_pos hz]
  refine Ev.bind epn ?_
  simp only [if_pos c]
  exact e
 ·obtain ⟨r, e⟩ := impl_PM_j0_tot s pn.1 true
  refine ⟨r, ?_⟩
  simp only [impl_ParseMeasure.f, strings_TrimPrefix.f, strings_Cut.f, Option.bind_some, if_pos hz]
  refine Ev.bind epn ?_
  simp only [if_neg c]
  exact e
theorem impl_ParseMeasure_fmt {x : Int} (h0 : -4096 ≤ x) (h1 : x ≤ 4096) : Ev (fun k => impl_ParseMeasure.f k (pFmt x)) (x, true) := by
 have hl := pFmt_list h0 h1
 have ht : Go.Lib.trimPrefix (pFmt x).data.toList [45] = numl x ++ fracl x := by
  rw [hl]
  unfold Go.Lib.trimPrefix Go.Lib.hasPrefix sgnl
  obtain ⟨b, l, e1, e2⟩ := numl_head x
  by_cases c : x < 0
  ·rw [if_pos c]; simp [List.isPrefixOf]
  ·rw [if_neg c, e1]
   simp [List.isPrefixOf, Ne.symm e2]
 obtain ⟨f, b, hc, hf⟩ := cut_dot x
 have hsz := pFmt_size x
 have hln : (numl x ++ fracl x).length ≤ 1000 := by
  have := congrArg List.length hl
  rw [ba_sz, List.length_append] at this; omega
 have hz : (⟨(numl x ++ fracl x).toArray⟩ : ByteArray).size < 4294967281 := by show (Array.size _) < _; rw [List.size_toArray]; omega
 have hn : (⟨(numl x).toArray⟩ : ByteArray) = pNum ((x.natAbs / 8 : Nat) : Int) := ba_ext rfl
 have hfz : (⟨f.toArray⟩ : ByteArray).size ≤ 3 := by show (Array.size _) ≤ _; rw [List.size_toArray]; exact hf
 simp only [impl_ParseMeasure.f, strings_TrimPrefix.f, strings_Cut.f, Option.bind_some, ht, if_pos hz, hc, hn]
 refine Ev.bind (impl_ParseNumber_num (x.natAbs / 8) (by omega)) ?_
 simp only [if_true]
 rw [decide_eq_false (show ¬ ((⟨f.toArray⟩ : ByteArray).size : Int) > 3 by omega)]
 refine ev_succ ?_
 simp only [impl_ParseMeasure.j0, Bool.false_eq_true, if_false]
 rw [show wrap64 (8 * ((x.natAbs / 8 : Nat) : Int)) = ((8 * (x.natAbs / 8) : Nat) : Int) by unfold wrap64; omega]
 exact impl_PM_l0 h0 h1 rfl (x.natAbs % 8) 0 (by omega)
theorem nmR_bytes {a : ByteArray} : ∀ (d i : Nat), i + d = a.size → nmR a d i = true → ∀ j, i ≤ j → j < a.size → 48 ≤ bt a (j : Int) ∧ bt a (j : Int) ≤ 122
 | 0, i, h, _, j, h1, h2 => by omega
 | d + 1, i, h, hn, j, h1, h2 => by
  unfold nmR at hn
  rw [Bool.and_eq_true] at hn
  by_cases e : j = i
  ·subst e
   have := hn.1
   simp only [nmC, Bool.or_eq_true, Bool.and_eq_true, decide_eq_true_eq] at this
   omega
  ·exact nmR_bytes d (i + 1) (by omega) hn.2 j (by omega) h2
theorem name_bytes {a : ByteArray} (h : pName a = true) : ∀ b ∈ a.data.toList, 48 ≤ b.toNat := by
 intro b hb
 obtain ⟨j, hj, e⟩ := List.mem_iff_getElem.1 hb
 have hj' : j < a.size := by rw [← ba_sz]; exact hj
 have := nmR_bytes a.size 0 (by omega) h j (by omega) hj'
 unfold bt at this
 rw [dif_pos (show (j : Int).toNat < a.size by rw [Int.toNat_natCast]; exact hj')] at this
 have e2 : a[(j : Int).toNat]'(by rw [Int.toNat_natCast]; exact hj') = b := by
  rw [← e]; rfl
 rw [e2] at this
 omega
theorem no_blank {l : List UInt8} (h : ∀ b ∈ l, 33 ≤ b.toNat) : (32 : UInt8) ∉ l := fun m => by
 have := h _ m
 exact absurd this (by decide)
theorem fmt_bytes (x : Int) : ∀ b ∈ (pFmt x).data.toList, 33 ≤ b.toNat := by
 intro b hb
 by_cases h : -4096 ≤ x ∧ x ≤ 4096
 ·rw [pFmt_list h.1 h.2] at hb
  rcases List.mem_append.1 hb with hb | hb
  ·unfold sgnl at hb
   split at hb
   ·rw [List.mem_singleton] at hb; subst hb; decide
   ·cases hb
  ·rcases List.mem_append.1 hb with hb | hb
   ·have := num_digits _ b hb; omega
   ·rcases fracT_cases (x.natAbs % 8) (by omega) with ⟨e, _⟩ | ⟨f, e, _, hf⟩
    ·unfold fracl at hb; rw [e] at hb; cases hb
    ·unfold fracl at hb; rw [e] at hb
     rcases List.mem_cons.1 hb with rfl | hb
     ·decide
     ·have := hf b hb; omega
 ·unfold pFmt at hb; rw [if_neg h] at hb; cases hb
theorem num_bytes (n : Nat) : ∀ b ∈ (pNum (n : Int)).data.toList, 33 ≤ b.toNat := fun b hb => by have := num_digits n b hb; omega
theorem lastS_mid {t rest : List UInt8} {c : UInt8} (hc : Ty.isSg c = true) (hr : ∀ b ∈ rest, Ty.isSg b = false) : Ty.lastS (t ++ c :: rest) = (t.length : Int) := by
 have key : ∀ (r : List UInt8), (∀ b ∈ r, Ty.isSg b = false) → ∀ u, Ty.lastS (u ++ r) = Ty.lastS u := by
  intro r
  induction r with
  | nil => intro _ u; rw [List.append_nil]
  | cons b r ih =>
   intro h u
   rw [show u ++ b :: r = (u ++ [b]) ++ r by simp, ih (fun x hx => h x (List.mem_cons_of_mem _ hx)), Ty.lastS_snoc, h b (by simp)]; simp
 rw [show t ++ c :: rest = (t ++ [c]) ++ rest by simp, key rest hr, Ty.lastS_snoc, hc]; simp
theorem bt_get {s : ByteArray} {i : Nat} {b : UInt8} (h : s.data.toList[i]? = some b) : bt s (i : Int) = (b.toNat : Int) := by
 have hi : i < s.size := by
  rcases Nat.lt_or_ge i s.size with c | c
  ·exact c
  ·rw [List.getElem?_eq_none (by rw [ba_sz]; exact c)] at h; cases h
 unfold bt
 rw [dif_pos (show (i : Int).toNat < s.size by rw [Int.toNat_natCast]; exact hi)]
 have e : s[(i : Int).toNat]'(by rw [Int.toNat_natCast]; exact hi) = b := by
  have h2 : s.data.toList[i]'(by rw [ba_sz]; exact hi) = b := by
   rw [List.getElem?_eq_getElem (by rw [ba_sz]; exact hi)] at h; exact Option.some.inj h
  rw [← h2]; rfl
 rw [e]
theorem ex_list (s : ByteArray) (a b : Nat) : (s.extract a b).data.toList = (s.data.toList.drop a).take (b - a) := by
 rw [ByteArray.data_extract, Array.toList_extract, List.extract_eq_take_drop]
theorem ex_size (s : ByteArray) (a b : Nat) : (s.extract a b).size ≤ s.size := by
 rw [← ba_sz, ex_list, List.length_take, List.length_drop, ba_sz]; omega
def ascii (s : ByteArray) : Prop := ∀ b ∈ s.data.toList, b.toNat < 128
theorem ascii_all {s : ByteArray} (h : ascii s) : (s.data.toList.all (fun b => decide (b.toNat < 128))) = true := List.all_eq_true.2 (fun b hb => decide_eq_true (h b hb))
theorem tp_size (t p : ByteArray) : (⟨(Go.Lib.trimPrefix t.data.toList p.data.toList).toArray⟩ : ByteArray).size ≤ t.size := by
 show (Array.size _) ≤ _
 rw [List.size_toArray, ← ba_sz t]; exact trimPrefix_le _ _
theorem impl_PP_j0_tot (s : ByteArray) (hs : s.size < 4294967281) (at_ : Int) (h1 : 1 ≤ at_) (h2 : at_ < s.size) (b : Bool) : ∃ r, Ev (fun k => impl_ParsePlace.j0 k s at_ b) r := by
 cases b
 ·obtain ⟨p, ep⟩ := impl_ParseMeasure_tot (s.extract 0 at_.toNat) (by have := ex_size s 0 at_.toNat; omega)
  have hw : wrap64 ((s.size : Int) - 1) = ((s.size - 1 : Nat) : Int) := by unfold wrap64; omega
  have hz : (⟨(Go.Lib.trimPrefix (s.extract at_.toNat (s.size - 1)).data.toList (⟨#[43]⟩ : ByteArray).data.toList).toArray⟩ : ByteArray).size < 4294967281 := by
   have := tp_size (s.extract at_.toNat (s.size - 1)) (⟨#[43]⟩ : ByteArray)
   have := ex_size s at_.toNat (s.size - 1)
   omega
  obtain ⟨q, eq⟩ := impl_ParseMeasure_tot _ hz
  have pre : ∀ r, Ev (fun k => if p.2 = true then (if q.2 = true then ((impl_FormatPlace.f k p.1 q.1).bind fun t396 => (if t396.toList = s.toList then (some (p.1, q.1, true)) else (some ((0 : Int), (0 : Int), false)))) else (some (0, 0, false))) else (some (0, 0, false))) r → Ev (fun k => impl_ParsePlace.j0 k s at_ false) r := by
   intro r e
   refine ev_succ ?_
   simp only [impl_ParsePlace.j0, Bool.false_eq_true, if_false, if_pos (show 0 ≤ at_ by omega), if_pos (show at_ ≤ (s.size : Int) by omega)]
   refine Ev.bind ep ?_
   simp only [hw, if_pos (show at_ ≤ ((s.size - 1 : Nat) : Int) by omega), if_pos (show ((s.size - 1 : Nat) : Int) ≤ (s.size : Int) by omega), strings_TrimPrefix.f, Option.bind_some, Int.toNat_natCast]
   refine Ev.bind eq ?_
   exact e
  by_cases c1 : p.2 = true
  ·by_cases c2 : q.2 = true
   ·by_cases c3 : (pPlaceT p.1 q.1).toList = s.toList
    ·refine ⟨(p.1, q.1, true), pre _ ?_⟩
     simp only [if_pos c1, if_pos c2]
     refine Ev.bind (impl_FormatPlace_ev _ _) ?_
     simp only [if_pos c3]; exact Ev.now _
    ·refine ⟨((0 : Int), (0 : Int), false), pre _ ?_⟩
     simp only [if_pos c1, if_pos c2]
     refine Ev.bind (impl_FormatPlace_ev _ _) ?_
     simp only [if_neg c3]; exact Ev.now _
   ·refine ⟨((0 : Int), (0 : Int), false), pre _ ?_⟩
    simp only [if_pos c1, if_neg c2]; exact Ev.now _
  ·refine ⟨((0 : Int), (0 : Int), false), pre _ ?_⟩
   simp only [if_neg c1]; exact Ev.now _
 ·refine ⟨((0 : Int), (0 : Int), false), ev_succ ?_⟩
  simp only [impl_ParsePlace.j0, if_true]; exact Ev.now _
theorem impl_ParsePlace_tot (s : ByteArray) (hs : s.size < 4294967281) (ha : ascii s) : ∃ r, Ev (fun k => impl_ParsePlace.f k s) r := by
 obtain ⟨l0, l1⟩ := Ty.lastS_le s.data.toList
 rw [ba_sz] at l1
 have eL : strings_LastIndexAny.f s (⟨#[43, 45]⟩ : ByteArray) = some (Ty.lastS s.data.toList) := by
  unfold strings_LastIndexAny.f; rw [if_pos ⟨rfl, hs, ascii_all ha⟩]
 generalize Ty.lastS s.data.toList = at_ at l0 l1 eL
 by_cases c : at_ < 1
 ·refine ⟨((0 : Int), (0 : Int), false), ?_⟩
  simp only [impl_ParsePlace.f, eL, Option.bind_some, if_pos c]
  refine ev_succ ?_
  simp only [impl_ParsePlace.j0, if_true]; exact Ev.now _
 ·have hw : wrap64 ((s.size : Int) - 1) = (s.size : Int) - 1 := by unfold wrap64; omega
  obtain ⟨r, e⟩ := impl_PP_j0_tot s hs at_ (by omega) l1 (bt s ((s.size : Int) - 1) != 105)
  refine ⟨r, ?_⟩
  simp only [impl_ParsePlace.f, eL, Option.bind_some, if_neg c, hw, if_pos (show 0 ≤ (s.size : Int) - 1 by omega), if_pos (show (s.size : Int) - 1 < (s.size : Int) by omega)]
  exact e
theorem num_nosg {l : List UInt8} (h : ∀ b ∈ l, 46 ≤ b.toNat) : ∀ b ∈ l, Ty.isSg b = false := fun b hb => by
 have h1 := h b hb
 unfold Ty.isSg
 have e1 : ¬ b = 43 := fun e => by rw [e] at h1; exact absurd h1 (by decide)
 have e2 : ¬ b = 45 := fun e => by rw [e] at h1; exact absurd h1 (by decide)
 simp [e1, e2]
theorem nf_bytes (x : Int) : ∀ b ∈ numl x ++ fracl x, 46 ≤ b.toNat := by
 intro b hb
 rcases List.mem_append.1 hb with hb | hb
 ·have := num_digits _ b hb; omega
 ·rcases fracT_cases (x.natAbs % 8) (by omega) with ⟨e, _⟩ | ⟨f, e, _, hf⟩
  ·unfold fracl at hb; rw [e] at hb; cases hb
  ·unfold fracl at hb; rw [e] at hb
   rcases List.mem_cons.1 hb with rfl | hb
   ·decide
   ·have := hf b hb; omega
theorem place_parts {x y : Int} (h : pPlace x y = true) : ∃ c rest, (pPlaceT x y).data.toList = (pFmt x).data.toList ++ c :: (rest ++ [105]) ∧ Ty.isSg c = true ∧ (∀ b ∈ rest, 46 ≤ b.toNat) ∧ Go.Lib.trimPrefix (c :: rest) [43] = (pFmt y).data.toList := by
 simp only [pPlace, Bool.and_eq_true, decide_eq_true_eq] at h
 have hy := pFmt_list h.2.1 h.2.2
 have hp : pPlace x y = true := by simp only [pPlace, Bool.and_eq_true, decide_eq_true_eq]; exact h
 unfold pPlaceT
 rw [if_pos hp]
 by_cases c : y < 0
 ·refine ⟨45, numl y ++ fracl y, ?_, rfl, nf_bytes y, ?_⟩
  ·rw [if_pos c, ByteArray.data_append, ByteArray.data_append, ByteArray.data_append, Array.toList_append, Array.toList_append, Array.toList_append, hy]
   unfold sgnl
   rw [if_pos c]
   simp
  ·rw [hy]
   unfold sgnl
   rw [if_pos c]
   unfold Go.Lib.trimPrefix Go.Lib.hasPrefix
   simp [List.isPrefixOf]
 ·refine ⟨43, numl y ++ fracl y, ?_, rfl, nf_bytes y, ?_⟩
  ·rw [if_neg c, ByteArray.data_append, ByteArray.data_append, ByteArray.data_append, Array.toList_append, Array.toList_append, Array.toList_append, hy]
   unfold sgnl
   rw [if_neg c]
   simp
  ·rw [hy]
   unfold sgnl
   rw [if_neg c]
   unfold Go.Lib.trimPrefix Go.Lib.hasPrefix
   simp [List.isPrefixOf]
theorem fmt_ascii (x : Int) : ∀ b ∈ (pFmt x).data.toList, b.toNat < 128 := by
 intro b hb
 by_cases h : -4096 ≤ x ∧ x ≤ 4096
 ·rw [pFmt_list h.1 h.2] at hb
  rcases List.mem_append.1 hb with hb | hb
  ·unfold sgnl at hb
   split at hb
   ·rw [List.mem_singleton] at hb; subst hb; decide
   ·cases hb
  ·rcases List.mem_append.1 hb with hb | hb
   ·have := num_digits _ b hb; omega
   ·rcases fracT_cases (x.natAbs % 8) (by omega) with ⟨e, _⟩ | ⟨f, e, _, hf⟩
    ·unfold fracl at hb; rw [e] at hb; cases hb
    ·unfold fracl at hb; rw [e] at hb
     rcases List.mem_cons.1 hb with rfl | hb
     ·decide
     ·have := hf b hb; omega
 ·unfold pFmt at hb; rw [if_neg h] at hb; cases hb
theorem place_ascii (x y : Int) : ascii (pPlaceT x y) := by
 intro b hb
 unfold pPlaceT at hb
 split at hb
 ·rw [ByteArray.data_append, ByteArray.data_append, ByteArray.data_append, Array.toList_append, Array.toList_append, Array.toList_append] at hb
  rcases List.mem_append.1 hb with hb | hb
  ·rcases List.mem_append.1 hb with hb | hb
   ·rcases List.mem_append.1 hb with hb | hb
    ·exact fmt_ascii x b hb
    ·split at hb
     ·cases hb
     ·rw [show (⟨#[43]⟩ : ByteArray).data.toList = [43] from rfl, List.mem_singleton] at hb; subst hb; decide
   ·exact fmt_ascii y b hb
  ·rw [show (⟨#[105]⟩ : ByteArray).data.toList = [105] from rfl, List.mem_singleton] at hb; subst hb; decide
 ·cases hb
theorem impl_ParsePlace_fmt {x y : Int} (h : pPlace x y = true) : Ev (fun k => impl_ParsePlace.f k (pPlaceT x y)) (x, y, true) := by
 obtain ⟨c, rest, hl, hc, hr, ht⟩ := place_parts h
 have hsz := pPlaceT_size x y
 have hb := h
 simp only [pPlace, Bool.and_eq_true, decide_eq_true_eq] at hb
 have eL : strings_LastIndexAny.f (pPlaceT x y) (⟨#[43, 45]⟩ : ByteArray) = some (((pFmt x).data.toList.length : Nat) : Int) := by
  unfold strings_LastIndexAny.f
  rw [if_pos ⟨rfl, by omega, ascii_all (place_ascii x y)⟩, hl, lastS_mid hc]
  intro b hb
  rcases List.mem_append.1 hb with hb | hb
  ·exact num_nosg hr b hb
  ·rw [List.mem_singleton] at hb; subst hb; rfl
 have hfx : 1 ≤ (pFmt x).data.toList.length := by
  rw [pFmt_list hb.1.1 hb.1.2, List.length_append, List.length_append]
  have := List.length_pos_iff.2 (numl_ne x); omega
 have hz : (pPlaceT x y).size = (pFmt x).data.toList.length + (rest.length + 2) := by
  rw [← ba_sz, hl]; simp
 generalize hn : (pFmt x).data.toList.length = n at hfx hz eL
 have hw : wrap64 (((pPlaceT x y).size : Int) - 1) = (((pPlaceT x y).size - 1 : Nat) : Int) := by unfold wrap64; omega
 have hlast : bt (pPlaceT x y) (((pPlaceT x y).size - 1 : Nat) : Int) = 105 := by
  have : (pPlaceT x y).data.toList[(pPlaceT x y).size - 1]? = some 105 := by
   rw [hl, hz, ← hn, show (pFmt x).data.toList.length + (rest.length + 2) - 1 = ((pFmt x).data.toList ++ c :: rest).length by simp <;> omega, show (pFmt x).data.toList ++ c :: (rest ++ [105]) = ((pFmt x).data.toList ++ c :: rest) ++ [105] by simp]
   simp
  rw [bt_get this]; rfl
 have e1 : (pPlaceT x y).extract 0 n = pFmt x := ba_ext (by rw [ex_list, hl, List.drop_zero, Nat.sub_zero, ← hn, List.take_left])
 have e2 : ((pPlaceT x y).extract n ((pPlaceT x y).size - 1)).data.toList = c :: rest := by
  rw [ex_list, hl, hz, ← hn, List.drop_left, show (pFmt x).data.toList.length + (rest.length + 2) - 1 - (pFmt x).data.toList.length = (c :: rest).length by simp <;> omega, show c :: (rest ++ [105]) = (c :: rest) ++ [105] by simp, List.take_left]
 simp only [impl_ParsePlace.f, eL, Option.bind_some, if_neg (show ¬ (n : Int) < 1 by omega), hw, if_pos (nn _), if_pos (show (((pPlaceT x y).size - 1 : Nat) : Int) < ((pPlaceT x y).size : Int) by omega), hlast]
 rw [show ((105 : Int) != 105) = false from rfl]
 refine ev_succ ?_
 simp only [impl_ParsePlace.j0, Bool.false_eq_true, if_false, if_pos (nn _), if_pos (show (n : Int) ≤ ((pPlaceT x y).size : Int) by omega), Int.toNat_natCast, e1]
 refine Ev.bind (impl_ParseMeasure_fmt hb.1.1 hb.1.2) ?_
 simp only [hw, if_pos (show (n : Int) ≤ (((pPlaceT x y).size - 1 : Nat) : Int) by omega), if_pos (show (((pPlaceT x y).size - 1 : Nat) : Int) ≤ ((pPlaceT x y).size : Int) by omega), strings_TrimPrefix.f, Option.bind_some, Int.toNat_natCast, e2]
 rw [show (⟨(Go.Lib.trimPrefix (c :: rest) (⟨#[43]⟩ : ByteArray).data.toList).toArray⟩ : ByteArray) = pFmt y from ba_ext (by show Go.Lib.trimPrefix (c :: rest) [43] = _; exact ht)]
 refine Ev.bind (impl_ParseMeasure_fmt hb.2.1 hb.2.2) ?_
 simp only [if_true]
 refine Ev.bind (impl_FormatPlace_ev x y) ?_
 simp only [if_true]
 exact Ev.now _
theorem place_bytes (x y : Int) : ∀ b ∈ (pPlaceT x y).data.toList, 33 ≤ b.toNat := by
 intro b hb
 unfold pPlaceT at hb
 split at hb
 ·rw [ByteArray.data_append, ByteArray.data_append, ByteArray.data_append, Array.toList_append, Array.toList_append, Array.toList_append] at hb
  rcases List.mem_append.1 hb with hb | hb
  ·rcases List.mem_append.1 hb with hb | hb
   ·rcases List.mem_append.1 hb with hb | hb
    ·exact fmt_bytes x b hb
    ·split at hb
     ·cases hb
     ·rw [show (⟨#[43]⟩ : ByteArray).data.toList = [43] from rfl, List.mem_singleton] at hb; subst hb; decide
   ·exact fmt_bytes y b hb
  ·rw [show (⟨#[105]⟩ : ByteArray).data.toList = [105] from rfl, List.mem_singleton] at hb; subst hb; decide
 ·cases hb
def wPump : List UInt8 := [112, 117, 109, 112]
def wNozzle : List UInt8 := [110, 111, 122, 122, 108, 101]
def wLamp : List UInt8 := [108, 97, 109, 112]
def wMost : List UInt8 := [109, 111, 115, 116]
def wOn : List UInt8 := [111, 110]
def wAt : List UInt8 := [97, 116]
def wHead : List UInt8 := [104, 101, 97, 100, 105, 110, 103]
def wTilt : List UInt8 := [116, 105, 108, 116]
theorem wl_blank : (32 : UInt8) ∉ wPump ∧ (32 : UInt8) ∉ wNozzle ∧ (32 : UInt8) ∉ wLamp ∧ (32 : UInt8) ∉ wMost ∧ (32 : UInt8) ∉ wOn ∧ (32 : UInt8) ∉ wAt ∧ (32 : UInt8) ∉ wHead ∧ (32 : UInt8) ∉ wTilt := by decide
theorem tl_words : tPump.data.toList = wPump ++ [32] ∧ tNozzle.data.toList = wNozzle ++ [32] ∧ tLamp.data.toList = wLamp ++ [32] ∧ tMost.data.toList = 32 :: (wMost ++ [32]) ∧ tOn.data.toList = 32 :: (wOn ++ [32]) ∧ tAt.data.toList = 32 :: (wAt ++ [32]) ∧ tHead.data.toList = 32 :: (wHead ++ [32]) ∧ tTilt.data.toList = 32 :: (wTilt ++ [32]) := ⟨rfl, rfl, rfl, rfl, rfl, rfl, rfl, rfl⟩
theorem name_blank {a : ByteArray} (h : pName a = true) : (32 : UInt8) ∉ a.data.toList := no_blank (fun b hb => by have := name_bytes h b hb; omega)
theorem dev_name {n : ByteArray} {kd : Int} {ln : ByteArray} {x y hd ti mo : Int} (h : pDevice n kd ln x y hd ti mo = true) : pName n = true ∧ (kd = 1 ∨ ((kd = 2 ∨ kd = 3) ∧ pName ln = true)) := by
 unfold pDevice at h
 rw [Bool.and_eq_true] at h
 refine ⟨h.1, ?_⟩
 have h2 := h.2
 by_cases k1 : kd = 1
 ·exact .inl k1
 ·rw [if_neg k1] at h2
  by_cases k2 : kd = 2
  ·rw [if_pos k2] at h2
   simp only [pLineOk, Bool.and_eq_true] at h2
   exact .inr ⟨.inl k2, h2.1.1⟩
  ·rw [if_neg k2] at h2
   by_cases k3 : kd = 3
   ·rw [if_pos k3] at h2
    simp only [pLineOk, Bool.and_eq_true] at h2
    exact .inr ⟨.inr k3, h2.1.1⟩
   ·rw [if_neg k3] at h2; cases h2
theorem hd_blank {hd : Int} (h0 : 0 ≤ hd) : (32 : UInt8) ∉ (pNum hd).data.toList := by
 rw [show hd = ((hd.toNat : Nat) : Int) by omega]; exact no_blank (num_bytes _)
theorem pump_words {n : ByteArray} {ln : ByteArray} {x y hd ti mo : Int} (h : pDevice n 1 ln x y hd ti mo = true) : splA 32 [] (pDevT n 1 ln x y hd ti mo).data.toList = [wPump, n.data.toList, wMost, (pFmt mo).data.toList] := by
 obtain ⟨b1, b2, b3, b4, b5, b6, b7, b8⟩ := wl_blank
 obtain ⟨t1, t2, t3, t4, t5, t6, t7, t8⟩ := tl_words
 have hn := name_blank (dev_name h).1
 unfold pDevT
 rw [if_pos h, if_pos rfl]
 have e : (tPump ++ n ++ tMost ++ pFmt mo).data.toList = wPump ++ 32 :: (n.data.toList ++ 32 :: (wMost ++ 32 :: (pFmt mo).data.toList)) := by
  simp only [ByteArray.data_append, Array.toList_append, t1, t4, List.append_assoc, List.cons_append, List.nil_append]
 rw [e, splA_word _ _ _ _ b1, splA_word _ _ _ _ hn, splA_word _ _ _ _ b4, splA_last _ _ _ (no_blank (fmt_bytes mo))]; rfl
theorem nozzle_words {n : ByteArray} {ln : ByteArray} {x y hd ti mo : Int} (h : pDevice n 2 ln x y hd ti mo = true) : splA 32 [] (pDevT n 2 ln x y hd ti mo).data.toList = [wNozzle, n.data.toList, wOn, ln.data.toList, wAt, (pPlaceT x y).data.toList, wHead, (pNum hd).data.toList, wTilt, (pFmt ti).data.toList, wMost, (pFmt mo).data.toList] := by
 obtain ⟨b1, b2, b3, b4, b5, b6, b7, b8⟩ := wl_blank
 obtain ⟨t1, t2, t3, t4, t5, t6, t7, t8⟩ := tl_words
 obtain ⟨hn0, hk⟩ := dev_name h
 have hn := name_blank hn0
 have hl : (32 : UInt8) ∉ ln.data.toList := by
  rcases hk with hk | ⟨_, hk⟩
  ·cases hk
  ·exact name_blank hk
 obtain ⟨h0, _⟩ := (pDev_num h).2.2 rfl
 unfold pDevT
 rw [if_pos h, if_neg (by decide), if_pos rfl]
 have e : (tNozzle ++ n ++ tOn ++ ln ++ tAt ++ pPlaceT x y ++ tHead ++ pNum hd ++ tTilt ++ pFmt ti ++ tMost ++ pFmt mo).data.toList = wNozzle ++ 32 :: (n.data.toList ++ 32 :: (wOn ++ 32 :: (ln.data.toList ++ 32 :: (wAt ++ 32 :: ((pPlaceT x y).data.toList ++ 32 :: (wHead ++ 32 :: ((pNum hd).data.toList ++ 32 :: (wTilt ++ 32 :: ((pFmt ti).data.toList ++ 32 :: (wMost ++ 32 :: (pFmt mo).data.toList)))))))))) := by
  simp only [ByteArray.data_append, Array.toList_append, t2, t4, t5, t6, t7, t8, List.append_assoc, List.cons_append, List.nil_append]
 rw [e, splA_word _ _ _ _ b2, splA_word _ _ _ _ hn, splA_word _ _ _ _ b5, splA_word _ _ _ _ hl, splA_word _ _ _ _ b6, splA_word _ _ _ _ (no_blank (place_bytes x y)), splA_word _ _ _ _ b7, splA_word _ _ _ _ (hd_blank h0), splA_word _ _ _ _ b8, splA_word _ _ _ _ (no_blank (fmt_bytes ti)), splA_word _ _ _ _ b4, splA_last _ _ _ (no_blank (fmt_bytes mo))]; rfl
theorem lamp_words {n : ByteArray} {ln : ByteArray} {x y hd ti mo : Int} (h : pDevice n 3 ln x y hd ti mo = true) : splA 32 [] (pDevT n 3 ln x y hd ti mo).data.toList = [wLamp, n.data.toList, wOn, ln.data.toList, wAt, (pPlaceT x y).data.toList] := by
 obtain ⟨b1, b2, b3, b4, b5, b6, b7, b8⟩ := wl_blank
 obtain ⟨t1, t2, t3, t4, t5, t6, t7, t8⟩ := tl_words
 obtain ⟨hn0, hk⟩ := dev_name h
 have hn := name_blank hn0
 have hl : (32 : UInt8) ∉ ln.data.toList := by
  rcases hk with hk | ⟨_, hk⟩
  ·cases hk
  ·exact name_blank hk
 unfold pDevT
 rw [if_pos h, if_neg (by decide), if_neg (by decide)]
 have e : (tLamp ++ n ++ tOn ++ ln ++ tAt ++ pPlaceT x y).data.toList = wLamp ++ 32 :: (n.data.toList ++ 32 :: (wOn ++ 32 :: (ln.data.toList ++ 32 :: (wAt ++ 32 :: (pPlaceT x y).data.toList)))) := by
  simp only [ByteArray.data_append, Array.toList_append, t3, t5, t6, List.append_assoc, List.cons_append, List.nil_append]
 rw [e, splA_word _ _ _ _ b3, splA_word _ _ _ _ hn, splA_word _ _ _ _ b5, splA_word _ _ _ _ hl, splA_word _ _ _ _ b6, splA_last _ _ _ (no_blank (place_bytes x y))]; rfl
abbrev DRes := ByteArray × Int × ByteArray × Int × Int × Int × Int × Int × Bool
def zeroR : DRes := ((⟨#[]⟩ : ByteArray), 0, (⟨#[]⟩ : ByteArray), 0, 0, 0, 0, 0, false)
def devRes (s : ByteArray) (r : DRes) : Prop := r = zeroR ∨ (r.2.2.2.2.2.2.2.2 = true ∧ pDevice r.1 r.2.1 r.2.2.1 r.2.2.2.1 r.2.2.2.2.1 r.2.2.2.2.2.1 r.2.2.2.2.2.2.1 r.2.2.2.2.2.2.2.1 = true ∧ (pDevT r.1 r.2.1 r.2.2.1 r.2.2.2.1 r.2.2.2.2.1 r.2.2.2.2.2.1 r.2.2.2.2.2.2.1 r.2.2.2.2.2.2.2.1).toList = s.toList)
theorem dev_last {s : ByteArray} {n ln : ByteArray} {kd x y hd ti mo : Int} {F : Nat → Option ByteArray} (hF : Ev F (pDevT n kd ln x y hd ti mo)) : ∃ r : DRes, Ev (fun k => if s.toList = ([] : List UInt8) then (some ((⟨#[]⟩ : ByteArray), (0 : Int), (⟨#[]⟩ : ByteArray), (0 : Int), (0 : Int), (0 : Int), (0 : Int), (0 : Int), false)) else ((F k).bind fun t => (if t.toList = s.toList then (some (n, kd, ln, x, y, hd, ti, mo, true)) else (some ((⟨#[]⟩ : ByteArray), 0, (⟨#[]⟩ : ByteArray), 0, 0, 0, 0, 0, false))))) r ∧ devRes s r := by
 by_cases c0 : s.toList = ([] : List UInt8)
 ·refine ⟨zeroR, ?_, .inl rfl⟩
  simp only [if_pos c0]; exact Ev.now _
 ·by_cases c1 : (pDevT n kd ln x y hd ti mo).toList = s.toList
  ·refine ⟨(n, kd, ln, x, y, hd, ti, mo, true), ?_, .inr ⟨rfl, ?_, c1⟩⟩
   ·simp only [if_neg c0]
    refine Ev.bind hF ?_
    simp only [if_pos c1]; exact Ev.now _
   ·show pDevice n kd ln x y hd ti mo = true
    by_cases c : pDevice n kd ln x y hd ti mo = true
    ·exact c
    ·unfold pDevT at c1
     rw [if_neg c] at c1
     exact absurd c1.symm (by rw [ba_tl (⟨#[]⟩ : ByteArray)]; exact c0)
  ·refine ⟨zeroR, ?_, .inl rfl⟩
   simp only [if_neg c0]
   refine Ev.bind hF ?_
   simp only [if_neg c1]; exact Ev.now _
theorem splA_mem (c : UInt8) : ∀ (l p w : List UInt8), w ∈ splA c p l → ∀ b ∈ w, b ∈ p ∨ b ∈ l
 | [], p, w, h, b, hb => by simp [splA] at h; subst h; exact .inl hb
 | a :: l, p, w, h, b, hb => by
  rw [splA] at h
  split at h
  ·rcases List.mem_cons.1 h with rfl | h
   ·exact .inl hb
   ·rcases splA_mem c l [] w h b hb with h | h
    ·cases h
    ·exact .inr (List.mem_cons_of_mem _ h)
  ·rcases splA_mem c l _ w h b hb with h | h
   ·rcases List.mem_append.1 h with h | h
    ·exact .inl h
    ·rw [List.mem_singleton] at h; exact .inr (by rw [h]; simp)
   ·exact .inr (List.mem_cons_of_mem _ h)
def wordsOk (s : ByteArray) (L : List ByteArray) : Prop := ∀ i : Nat, i < L.length → (rdOf ByteArray.empty L (i : Int)).size ≤ s.size ∧ (ascii s → ascii (rdOf ByteArray.empty L (i : Int)))
theorem words_ok {s : ByteArray} {L : List ByteArray} (hL : L.map (fun x => x.data.toList) = splA 32 [] s.data.toList) : wordsOk s L := by
 intro i hi
 have hm : rdOf ByteArray.empty L (i : Int) ∈ L := by
  unfold rdOf
  rw [Int.toNat_natCast, List.getD_eq_getElem?_getD, List.getElem?_eq_getElem hi, Option.getD_some]
  exact List.getElem_mem _
 have h2 : (rdOf ByteArray.empty L (i : Int)).data.toList ∈ splA 32 [] s.data.toList := by rw [← hL]; exact List.mem_map.2 ⟨_, hm, rfl⟩
 refine ⟨?_, fun ha b hb => ?_⟩
 ·have := splA_len _ _ _ _ h2
  rw [ba_sz, ba_sz] at this; simpa using this
 ·rcases splA_mem _ _ _ _ h2 b hb with h | h
  ·cases h
  ·exact ha b h
theorem impl_PD_j2 (s : ByteArray) (hs : s.size < 4294967281) (ha : ascii s) (L : List ByteArray) (hw : wordsOk s L) (b : Bool) (hb : b = true → L.length = 6) : ∃ r : DRes, Ev (fun k => impl_ParseDevice.j2 k s L b (⟨#[]⟩ : ByteArray) 0 (⟨#[]⟩ : ByteArray) 0 0 0 0 0) r ∧ devRes s r := by
 cases b
 ·obtain ⟨r, e, h⟩ := dev_last (s := s) (impl_FormatDevice_ev (⟨#[]⟩ : ByteArray) 0 (⟨#[]⟩ : ByteArray) 0 0 0 0 0 (by decide) (by decide))
  refine ⟨r, ev_succ ?_, h⟩
  simp only [impl_ParseDevice.j2, Bool.false_eq_true, if_false]
  exact e
 ·have hl := hb rfl
  obtain ⟨p, ep⟩ := impl_ParsePlace_tot (rdOf ByteArray.empty L 5) (by have : (rdOf ByteArray.empty L 5).size ≤ s.size := (hw 5 (by omega)).1; omega) ((hw 5 (by omega)).2 ha)
  have z1 : (rdOf ByteArray.empty L 1).size ≤ 9223372036854775807 := by have : (rdOf ByteArray.empty L 1).size ≤ s.size := (hw 1 (by omega)).1; exact Nat.le_trans this (by omega)
  have z3 : (rdOf ByteArray.empty L 3).size ≤ 9223372036854775807 := by have : (rdOf ByteArray.empty L 3).size ≤ s.size := (hw 3 (by omega)).1; exact Nat.le_trans this (by omega)
  obtain ⟨r, e, h⟩ := dev_last (s := s) (impl_FormatDevice_ev (rdOf ByteArray.empty L 1) 3 (rdOf ByteArray.empty L 3) p.1 p.2.1 0 0 0 z1 z3)
  refine ⟨r, ev_succ ?_, h⟩
  simp only [impl_ParseDevice.j2, if_true, if_pos (show 5 < (L.length : Int) by omega)]
  refine Ev.bind ep ?_
  simp only [if_pos (show 1 < (L.length : Int) by omega), if_pos (show 3 < (L.length : Int) by omega)]
  exact e
theorem impl_PD_j1 (s : ByteArray) (hs : s.size < 4294967281) (ha : ascii s) (L : List ByteArray) (hw : wordsOk s L) (b : Bool) (hb : b = true → L.length = 12) : ∃ r : DRes, Ev (fun k => impl_ParseDevice.j1 k s L b (⟨#[]⟩ : ByteArray) 0 (⟨#[]⟩ : ByteArray) 0 0 0 0 0) r ∧ devRes s r := by
 cases b
 ·by_cases c6 : L.length = 6
  ·obtain ⟨r, e, h⟩ := impl_PD_j2 s hs ha L hw ((rdOf ByteArray.empty L 0).toList == ([108, 97, 109, 112] : List UInt8)) (fun _ => c6)
   refine ⟨r, ev_succ ?_, h⟩
   simp only [impl_ParseDevice.j1, Bool.false_eq_true, if_false, if_pos (show (L.length : Int) = 6 by omega), if_pos (show 0 < (L.length : Int) by omega)]
   exact e
  ·obtain ⟨r, e, h⟩ := impl_PD_j2 s hs ha L hw false (fun h => by cases h)
   refine ⟨r, ev_succ ?_, h⟩
   simp only [impl_ParseDevice.j1, Bool.false_eq_true, if_false, if_neg (show ¬ (L.length : Int) = 6 by omega)]
   exact e
 ·have hl := hb rfl
  obtain ⟨p, ep⟩ := impl_ParsePlace_tot (rdOf ByteArray.empty L 5) (by have : (rdOf ByteArray.empty L 5).size ≤ s.size := (hw 5 (by omega)).1; omega) ((hw 5 (by omega)).2 ha)
  obtain ⟨a7, e7⟩ := impl_ParseNumber_tot (rdOf ByteArray.empty L 7) (by have : (rdOf ByteArray.empty L 7).size ≤ s.size := (hw 7 (by omega)).1; omega)
  obtain ⟨a9, e9⟩ := impl_ParseMeasure_tot (rdOf ByteArray.empty L 9) (by have : (rdOf ByteArray.empty L 9).size ≤ s.size := (hw 9 (by omega)).1; omega)
  obtain ⟨a11, e11⟩ := impl_ParseMeasure_tot (rdOf ByteArray.empty L 11) (by have : (rdOf ByteArray.empty L 11).size ≤ s.size := (hw 11 (by omega)).1; omega)
  have z1 : (rdOf ByteArray.empty L 1).size ≤ 9223372036854775807 := by have : (rdOf ByteArray.empty L 1).size ≤ s.size := (hw 1 (by omega)).1; exact Nat.le_trans this (by omega)
  have z3 : (rdOf ByteArray.empty L 3).size ≤ 9223372036854775807 := by have : (rdOf ByteArray.empty L 3).size ≤ s.size := (hw 3 (by omega)).1; exact Nat.le_trans this (by omega)
  obtain ⟨r, e, h⟩ := dev_last (s := s) (impl_FormatDevice_ev (rdOf ByteArray.empty L 1) 2 (rdOf ByteArray.empty L 3) p.1 p.2.1 a7.1 a9.1 a11.1 z1 z3)
  refine ⟨r, ev_succ ?_, h⟩
  simp only [impl_ParseDevice.j1, if_true, if_pos (show 5 < (L.length : Int) by omega)]
  refine Ev.bind ep ?_
  simp only [if_pos (show 7 < (L.length : Int) by omega)]
  refine Ev.bind e7 ?_
  simp only [if_pos (show 9 < (L.length : Int) by omega)]
  refine Ev.bind e9 ?_
  simp only [if_pos (show 11 < (L.length : Int) by omega)]
  refine Ev.bind e11 ?_
  simp only [if_pos (show 1 < (L.length : Int) by omega), if_pos (show 3 < (L.length : Int) by omega)]
  exact e
theorem impl_PD_j0 (s : ByteArray) (hs : s.size < 4294967281) (ha : ascii s) (L : List ByteArray) (hw : wordsOk s L) (b : Bool) (hb : b = true → L.length = 4) : ∃ r : DRes, Ev (fun k => impl_ParseDevice.j0 k s L b (⟨#[]⟩ : ByteArray) 0 (⟨#[]⟩ : ByteArray) 0 0 0 0 0) r ∧ devRes s r := by
 cases b
 ·by_cases c6 : L.length = 12
  ·obtain ⟨r, e, h⟩ := impl_PD_j1 s hs ha L hw ((rdOf ByteArray.empty L 0).toList == ([110, 111, 122, 122, 108, 101] : List UInt8)) (fun _ => c6)
   refine ⟨r, ev_succ ?_, h⟩
   simp only [impl_ParseDevice.j0, Bool.false_eq_true, if_false, if_pos (show (L.length : Int) = 12 by omega), if_pos (show 0 < (L.length : Int) by omega)]
   exact e
  ·obtain ⟨r, e, h⟩ := impl_PD_j1 s hs ha L hw false (fun h => by cases h)
   refine ⟨r, ev_succ ?_, h⟩
   simp only [impl_ParseDevice.j0, Bool.false_eq_true, if_false, if_neg (show ¬ (L.length : Int) = 12 by omega)]
   exact e
 ·have hl := hb rfl
  obtain ⟨a3, e3⟩ := impl_ParseMeasure_tot (rdOf ByteArray.empty L 3) (by have : (rdOf ByteArray.empty L 3).size ≤ s.size := (hw 3 (by omega)).1; omega)
  have z1 : (rdOf ByteArray.empty L 1).size ≤ 9223372036854775807 := by have : (rdOf ByteArray.empty L 1).size ≤ s.size := (hw 1 (by omega)).1; exact Nat.le_trans this (by omega)
  obtain ⟨r, e, h⟩ := dev_last (s := s) (impl_FormatDevice_ev (rdOf ByteArray.empty L 1) 1 (⟨#[]⟩ : ByteArray) 0 0 0 0 a3.1 z1 (by decide))
  refine ⟨r, ev_succ ?_, h⟩
  simp only [impl_ParseDevice.j0, if_true, if_pos (show 3 < (L.length : Int) by omega)]
  refine Ev.bind e3 ?_
  simp only [if_pos (show 1 < (L.length : Int) by omega)]
  exact e
theorem impl_ParseDevice_sound (s : ByteArray) (hs : s.size < 4294967281) (ha : ascii s) : ∃ r : DRes, Ev (fun k => impl_ParseDevice.f k s) r ∧ devRes s r := by
 obtain ⟨L, eL, hL⟩ := impl_SplitAt_eq s 32 hs
 have hw := words_ok hL
 by_cases c : L.length = 4
 ·obtain ⟨r, e, h⟩ := impl_PD_j0 s hs ha L hw ((rdOf ByteArray.empty L 0).toList == ([112, 117, 109, 112] : List UInt8)) (fun _ => c)
  refine ⟨r, ?_, h⟩
  simp only [impl_ParseDevice.f, eL, Option.bind_some, if_pos (show (L.length : Int) = 4 by omega), if_pos (show 0 < (L.length : Int) by omega)]
  exact e
 ·obtain ⟨r, e, h⟩ := impl_PD_j0 s hs ha L hw false (fun h => by cases h)
  refine ⟨r, ?_, h⟩
  simp only [impl_ParseDevice.f, eL, Option.bind_some, if_neg (show ¬ (L.length : Int) = 4 by omega)]
  exact e
theorem list_of : ∀ {L : List ByteArray} {ws : List (List UInt8)}, L.map (fun x => x.data.toList) = ws → L = ws.map (fun w => (⟨w.toArray⟩ : ByteArray))
 | [], ws, h => by rw [← h]; rfl
 | a :: t, ws, h => by
  rw [← h, List.map_cons, List.map_cons, ← list_of (L := t) rfl, show (⟨a.data.toList.toArray⟩ : ByteArray) = a from ba_ext rfl]
theorem ba_mk (a : ByteArray) : (⟨a.data.toList.toArray⟩ : ByteArray) = a := ba_ext rfl
theorem dev_vals {n : ByteArray} {kd : Int} {ln : ByteArray} {x y hd ti mo : Int} (h : pDevice n kd ln x y hd ti mo = true) :
  (kd = 1 → ln = ⟨#[]⟩ ∧ x = 0 ∧ y = 0 ∧ hd = 0 ∧ ti = 0 ∧ -4096 ≤ mo ∧ mo ≤ 4096) ∧ (kd = 2 → pPlace x y = true ∧ 0 ≤ hd ∧ hd ≤ 3 ∧ -4096 ≤ ti ∧ ti ≤ 4096 ∧ -4096 ≤ mo ∧ mo ≤ 4096) ∧ (kd = 3 → pPlace x y = true ∧ hd = 0 ∧ ti = 0 ∧ mo = 0) := by
 unfold pDevice at h
 rw [Bool.and_eq_true] at h
 have h2 := h.2
 refine ⟨fun k => ?_, fun k => ?_, fun k => ?_⟩
 ·rw [if_pos k] at h2
  simp only [pSup, Bool.and_eq_true, beq_iff_eq, decide_eq_true_eq] at h2
  obtain ⟨hm, hl, ⟨hx, hy⟩, hh, ht⟩ := h2
  rw [ba_tl] at hl
  exact ⟨ba_ext hl, hx, hy, hh, ht, by omega, by omega⟩
 ·rw [if_neg (by omega), if_pos k] at h2
  simp only [pJet, i16, pHead, Bool.and_eq_true, decide_eq_true_eq] at h2
  refine ⟨?_, by omega, by omega, by omega, by omega, by omega, by omega⟩
  simp only [pPlace, Bool.and_eq_true, decide_eq_true_eq]
  omega
 ·rw [if_neg (by omega), if_neg (by omega), if_pos k] at h2
  simp only [Bool.and_eq_true, beq_iff_eq] at h2
  exact ⟨h2.2.1, h2.2.2⟩
theorem pDevT_size (n : ByteArray) (kd : Int) (ln : ByteArray) (x y hd ti mo : Int) : (pDevT n kd ln x y hd ti mo).size ≤ 1000000 := by
 unfold pDevT
 obtain ⟨z1, z2, z3, z4, z5, z6, z7, z8⟩ := tz
 have hp := pPlaceT_size x y
 have hm := pFmt_size mo
 have ht := pFmt_size ti
 split
 ·rename_i h
  obtain ⟨s1, s2, s3⟩ := pDev_num h
  split
  ·simp only [ByteArray.size_append]; omega
  ·rename_i k1
   have := s2 k1
   split
   ·rename_i k2
    obtain ⟨h0, h3⟩ := s3 k2
    have hh := pNum_sz hd h0 (by omega)
    simp only [ByteArray.size_append]; omega
   ·simp only [ByteArray.size_append]; omega
 ·show 0 ≤ 1000000
  omega
theorem dev_ne {n : ByteArray} {kd : Int} {ln : ByteArray} {x y hd ti mo : Int} (h : pDevice n kd ln x y hd ti mo = true) : ¬ (pDevT n kd ln x y hd ti mo).toList = ([] : List UInt8) := by
 intro e
 rw [ba_tl] at e
 have hl := congrArg List.length e
 rw [ba_sz] at hl
 obtain ⟨z1, z2, z3, z4, z5, z6, z7, z8⟩ := tz
 unfold pDevT at hl
 rw [if_pos h] at hl
 split at hl
 ·simp only [ByteArray.size_append, List.length_nil] at hl; omega
 ·split at hl <;> (simp only [ByteArray.size_append, List.length_nil] at hl; omega)
theorem impl_ParseDevice_fmt {n : ByteArray} {kd : Int} {ln : ByteArray} {x y hd ti mo : Int} (h : pDevice n kd ln x y hd ti mo = true) : Ev (fun k => impl_ParseDevice.f k (pDevT n kd ln x y hd ti mo)) (n, kd, ln, x, y, hd, ti, mo, true) := by
 have hsz := pDevT_size n kd ln x y hd ti mo
 have hne := dev_ne h
 obtain ⟨v1, v2, v3⟩ := dev_vals h
 obtain ⟨s1, s2, _⟩ := pDev_num h
 obtain ⟨L, eL, hL⟩ := impl_SplitAt_eq (pDevT n kd ln x y hd ti mo) 32 (by omega)
 have hk : kd = 1 ∨ kd = 2 ∨ kd = 3 := by
  rcases (dev_name h).2 with hk | ⟨hk | hk, _⟩
  ·exact .inl hk
  ·exact .inr (.inl hk)
  ·exact .inr (.inr hk)
 have w1 : (⟨wPump.toArray⟩ : ByteArray).toList = [112, 117, 109, 112] := by rw [ba_tl]; rfl
 have w2 : (⟨wNozzle.toArray⟩ : ByteArray).toList = [110, 111, 122, 122, 108, 101] := by rw [ba_tl]; rfl
 have w3 : (⟨wLamp.toArray⟩ : ByteArray).toList = [108, 97, 109, 112] := by rw [ba_tl]; rfl
 rcases hk with rfl | rfl | rfl
 ·obtain ⟨rfl, rfl, rfl, rfl, rfl, m0, m1⟩ := v1 rfl
  rw [pump_words h] at hL
  have e := list_of hL
  simp only [List.map_cons, List.map_nil, ba_mk] at e
  subst e
  have fd := impl_FormatDevice_ev n 1 (⟨#[]⟩ : ByteArray) 0 0 0 0 mo (by omega) (by decide)
  simp only [impl_ParseDevice.f, eL, Option.bind_some]
  generalize (⟨wPump.toArray⟩ : ByteArray) = p0 at w1 ⊢
  generalize (⟨wMost.toArray⟩ : ByteArray) = p2
  have l4 : ((([p0, n, p2, pFmt mo] : List ByteArray).length : Nat) : Int) = 4 := rfl
  have r0 : rdOf ByteArray.empty [p0, n, p2, pFmt mo] 0 = p0 := rfl
  have r1 : rdOf ByteArray.empty [p0, n, p2, pFmt mo] 1 = n := rfl
  have r3 : rdOf ByteArray.empty [p0, n, p2, pFmt mo] 3 = pFmt mo := rfl
  simp only [l4, r0, w1, beq_self_eq_true]
  refine ev_ite (fun _ => ?_) (fun hh => absurd trivial hh)
  refine ev_ite (fun _ => ?_) (fun hh => absurd (by decide) hh)
  refine ev_succ ?_
  simp only [impl_ParseDevice.j0, if_true, l4, r1, r3, if_pos (show (3 : Int) < 4 by omega)]
  refine Ev.bind (impl_ParseMeasure_fmt m0 m1) ?_
  simp only [if_pos (show (1 : Int) < 4 by omega), if_neg hne]
  refine Ev.bind fd ?_
  simp only [if_true]
  exact Ev.now _
 ·obtain ⟨hp, h0, h3, t0, t1, m0, m1⟩ := v2 rfl
  rw [nozzle_words h] at hL
  have e := list_of hL
  simp only [List.map_cons, List.map_nil, ba_mk] at e
  subst e
  have fd := impl_FormatDevice_ev n 2 ln x y hd ti mo (by omega) (by have := s2 (by omega); omega)
  have pn := impl_ParseNumber_num hd.toNat (by omega)
  rw [show ((hd.toNat : Nat) : Int) = hd by omega] at pn
  simp only [impl_ParseDevice.f, eL, Option.bind_some]
  generalize (⟨wNozzle.toArray⟩ : ByteArray) = p0 at w2 ⊢
  generalize (⟨wOn.toArray⟩ : ByteArray) = p2
  generalize (⟨wAt.toArray⟩ : ByteArray) = p4
  generalize (⟨wHead.toArray⟩ : ByteArray) = p6
  generalize (⟨wTilt.toArray⟩ : ByteArray) = p8
  generalize (⟨wMost.toArray⟩ : ByteArray) = p10
  obtain ⟨LL, hLL⟩ : ∃ LL : List ByteArray, LL = [p0, n, p2, ln, p4, pPlaceT x y, p6, pNum hd, p8, pFmt ti, p10, pFmt mo] := ⟨_, rfl⟩
  have l4 : ((LL.length : Nat) : Int) = 12 := by rw [hLL]; rfl
  have r0 : rdOf ByteArray.empty LL 0 = p0 := by rw [hLL]; rfl
  have r1 : rdOf ByteArray.empty LL 1 = n := by rw [hLL]; rfl
  have r3 : rdOf ByteArray.empty LL 3 = ln := by rw [hLL]; rfl
  have r5 : rdOf ByteArray.empty LL 5 = pPlaceT x y := by rw [hLL]; rfl
  have r7 : rdOf ByteArray.empty LL 7 = pNum hd := by rw [hLL]; rfl
  have r9 : rdOf ByteArray.empty LL 9 = pFmt ti := by rw [hLL]; rfl
  have r11 : rdOf ByteArray.empty LL 11 = pFmt mo := by rw [hLL]; rfl
  rw [← hLL]
  simp only [l4]
  refine ev_ite (fun hh => absurd hh (by decide)) (fun _ => ?_)
  refine ev_succ ?_
  simp only [impl_ParseDevice.j0, Bool.false_eq_true, if_false, l4, r0, w2, beq_self_eq_true]
  refine ev_ite (fun _ => ?_) (fun hh => absurd trivial hh)
  refine ev_ite (fun _ => ?_) (fun hh => absurd (by decide) hh)
  refine ev_succ ?_
  simp only [impl_ParseDevice.j1, if_true, l4, r1, r3, r5, r7, r9, r11, if_pos (show (5 : Int) < 12 by omega)]
  refine Ev.bind (impl_ParsePlace_fmt hp) ?_
  simp only [if_pos (show (7 : Int) < 12 by omega)]
  refine Ev.bind pn ?_
  simp only [if_pos (show (9 : Int) < 12 by omega)]
  refine Ev.bind (impl_ParseMeasure_fmt t0 t1) ?_
  simp only [if_pos (show (11 : Int) < 12 by omega)]
  refine Ev.bind (impl_ParseMeasure_fmt m0 m1) ?_
  simp only [if_pos (show (1 : Int) < 12 by omega), if_pos (show (3 : Int) < 12 by omega), if_neg hne]
  refine Ev.bind fd ?_
  simp only [if_true]
  exact Ev.now _
 ·obtain ⟨hp, rfl, rfl, rfl⟩ := v3 rfl
  rw [lamp_words h] at hL
  have e := list_of hL
  simp only [List.map_cons, List.map_nil, ba_mk] at e
  subst e
  have fd := impl_FormatDevice_ev n 3 ln x y 0 0 0 (by omega) (by have := s2 (by omega); omega)
  simp only [impl_ParseDevice.f, eL, Option.bind_some]
  generalize (⟨wLamp.toArray⟩ : ByteArray) = p0 at w3 ⊢
  generalize (⟨wOn.toArray⟩ : ByteArray) = p2
  generalize (⟨wAt.toArray⟩ : ByteArray) = p4
  obtain ⟨LL, hLL⟩ : ∃ LL : List ByteArray, LL = [p0, n, p2, ln, p4, pPlaceT x y] := ⟨_, rfl⟩
  have l4 : ((LL.length : Nat) : Int) = 6 := by rw [hLL]; rfl
  have r0 : rdOf ByteArray.empty LL 0 = p0 := by rw [hLL]; rfl
  have r1 : rdOf ByteArray.empty LL 1 = n := by rw [hLL]; rfl
  have r3 : rdOf ByteArray.empty LL 3 = ln := by rw [hLL]; rfl
  have r5 : rdOf ByteArray.empty LL 5 = pPlaceT x y := by rw [hLL]; rfl
  rw [← hLL]
  simp only [l4]
  refine ev_ite (fun hh => absurd hh (by decide)) (fun _ => ?_)
  refine ev_succ ?_
  simp only [impl_ParseDevice.j0, Bool.false_eq_true, if_false, l4]
  refine ev_ite (fun hh => absurd hh (by decide)) (fun _ => ?_)
  refine ev_succ ?_
  simp only [impl_ParseDevice.j1, Bool.false_eq_true, if_false, l4, r0, w3, beq_self_eq_true]
  refine ev_ite (fun _ => ?_) (fun hh => absurd trivial hh)
  refine ev_ite (fun _ => ?_) (fun hh => absurd (by decide) hh)
  refine ev_succ ?_
  simp only [impl_ParseDevice.j2, if_true, l4, r1, r3, r5, if_pos (show (5 : Int) < 6 by omega)]
  refine Ev.bind (impl_ParsePlace_fmt hp) ?_
  simp only [if_pos (show (1 : Int) < 6 by omega), if_pos (show (3 : Int) < 6 by omega), if_neg hne]
  refine Ev.bind fd ?_
  simp only [if_true]
  exact Ev.now _
theorem ascii_append {a b : ByteArray} (ha : ascii a) (hb : ascii b) : ascii (a ++ b) := by
 intro x hx
 rw [ByteArray.data_append, Array.toList_append] at hx
 rcases List.mem_append.1 hx with h | h
 ·exact ha x h
 ·exact hb x h
theorem name_ascii {a : ByteArray} (h : pName a = true) : ascii a := by
 intro b hb
 obtain ⟨j, hj, e⟩ := List.mem_iff_getElem.1 hb
 have hj' : j < a.size := by rw [← ba_sz]; exact hj
 have := nmR_bytes a.size 0 (by omega) h j (by omega) hj'
 rw [bt_get (b := b) (by rw [List.getElem?_eq_getElem hj, e])] at this
 omega
theorem num_ascii {n : Int} (h : 0 ≤ n) : ascii (pNum n) := by
 intro b hb
 rw [show n = ((n.toNat : Nat) : Int) by omega] at hb
 have := num_digits _ b hb; omega
theorem fmt_asc (x : Int) : ascii (pFmt x) := fmt_ascii x
theorem lit_ascii : ascii tPump ∧ ascii tNozzle ∧ ascii tLamp ∧ ascii tMost ∧ ascii tOn ∧ ascii tAt ∧ ascii tHead ∧ ascii tTilt := by
 unfold ascii
 decide
theorem dev_ascii (n : ByteArray) (kd : Int) (ln : ByteArray) (x y hd ti mo : Int) : ascii (pDevT n kd ln x y hd ti mo) := by
 unfold pDevT
 obtain ⟨a1, a2, a3, a4, a5, a6, a7, a8⟩ := lit_ascii
 split
 ·rename_i h
  obtain ⟨hn, hk⟩ := dev_name h
  have n1 := name_ascii hn
  split
  ·exact ascii_append (ascii_append (ascii_append a1 n1) a4) (fmt_asc mo)
  ·rename_i k1
   have l1 : ascii ln := by
    rcases hk with hk | ⟨_, hk⟩
    ·exact absurd hk k1
    ·exact name_ascii hk
   split
   ·rename_i k2
    have h0 := ((pDev_num h).2.2 k2).1
    exact ascii_append (ascii_append (ascii_append (ascii_append (ascii_append (ascii_append (ascii_append (ascii_append (ascii_append (ascii_append (ascii_append a2 n1) a5) l1) a6) (place_ascii x y)) a7) (num_ascii h0)) a8) (fmt_asc ti)) a4) (fmt_asc mo)
   ·exact ascii_append (ascii_append (ascii_append (ascii_append (ascii_append a3 n1) a5) l1) a6) (place_ascii x y)
 ·intro b hb; cases hb
theorem DrawFormatDevice_ok (b : List Int) (hb : b.length < 1099511627776) : ∃ c : De, Ev (fun k => spec_DrawFormatDevice.f k b) (c.f0, c.f1, c.f2, c.f3.f0, c.f3.f1, c.f4, c.f5, c.f6) ∧ c.f0.size ≤ 1000 ∧ c.f2.size ≤ 1000 := by
 obtain ⟨h0, e0⟩ := l1New_ev b hb
 obtain ⟨c, i, h, e, hi, n1, n2⟩ := l6Any_ok b 0 h0 hb (by omega)
 refine ⟨c, ?_, n1, n2⟩
 unfold spec_DrawFormatDevice.f
 refine Ev.bind e0 ?_
 refine Ev.bind e ?_
 exact Ev.now _
theorem DrawParseDevice_ok (b : List Int) (hb : b.length < 1099511627776) : ∃ s, Ev (fun k => spec_DrawParseDevice.f k b) s ∧ s.size < 4294967281 ∧ ascii s := by
 obtain ⟨h0, e0⟩ := l1New_ev b hb
 obtain ⟨q, i, h, e, hi, n1, n2⟩ := l6Any_ok b 0 h0 hb (by omega)
 obtain ⟨c, i2, h2, e2, hi2, _, _⟩ := l1Below_ok b i h 6 hb hi
 have hs := pDevT_size q.f0 q.f1 q.f2 q.f3.f0 q.f3.f1 q.f4 q.f5 q.f6
 have ha := dev_ascii q.f0 q.f1 q.f2 q.f3.f0 q.f3.f1 q.f4 q.f5 q.f6
 have fc := spec_FormatDevice_ev q.f0 q.f1 q.f2 q.f3.f0 q.f3.f1 q.f4 q.f5 q.f6 (by omega) (by omega)
 by_cases c0 : c = 0
 ·have key : ∀ M : List ByteArray, M ≠ [] → (∀ x ∈ M, x.size ≤ 100 ∧ ascii x) → (∃ s, Ev (fun k => ((spec_l1Str.f b i2 h2 M).bind fun bt505 => (if (pDevT q.f0 q.f1 q.f2 q.f3.f0 q.f3.f1 q.f4 q.f5 q.f6).size + bt505.1.size ≤ 9223372036854775807 then (some ((pDevT q.f0 q.f1 q.f2 q.f3.f0 q.f3.f1 q.f4 q.f5 q.f6) ++ bt505.1)) else (none)))) s ∧ s.size < 4294967281 ∧ ascii s) := by
   intro M hM hall
   obtain ⟨w, i3, h3, e3, _, hw⟩ := l1Str_ok b i2 h2 M hb hi2 hM
   obtain ⟨z, az⟩ := hall w hw
   refine ⟨_, ?_, by rw [ByteArray.size_append]; omega, ascii_append ha az⟩
   simp only [e3, Option.bind_some]
   exact ev_ite (fun _ => Ev.now _) (fun hh => absurd (show _ by omega) hh)
  obtain ⟨s, es, r⟩ := key [(⟨#[32]⟩ : ByteArray), (⟨#[48]⟩ : ByteArray), (⟨#[32, 120]⟩ : ByteArray), (⟨#[46, 53]⟩ : ByteArray)] (by simp) (by unfold ascii; decide)
  refine ⟨s, ?_, r⟩
  unfold spec_DrawParseDevice.f
  refine Ev.bind e0 ?_
  refine Ev.bind e ?_
  refine Ev.bind fc ?_
  simp only [e2, Option.bind_some, if_pos c0]
  exact es
 ·by_cases c1 : c = 1
  ·have key : ∀ M : List ByteArray, M ≠ [] → (∀ x ∈ M, x.size ≤ 100 ∧ ascii x) → (∃ s, Ev (fun k => ((spec_l1Str.f b i2 h2 M).bind fun bt511 => (some bt511.1))) s ∧ s.size < 4294967281 ∧ ascii s) := by
    intro M hM hall
    obtain ⟨w, i3, h3, e3, _, hw⟩ := l1Str_ok b i2 h2 M hb hi2 hM
    obtain ⟨z, az⟩ := hall w hw
    refine ⟨w, ?_, by omega, az⟩
    simp only [e3, Option.bind_some]
    exact Ev.now _
   obtain ⟨s, es, r⟩ := key _ (by simp) (show ∀ x ∈ ([(⟨#[]⟩ : ByteArray), (⟨#[112, 117, 109, 112]⟩ : ByteArray), (⟨#[112, 117, 109, 112, 32, 112]⟩ : ByteArray), (⟨#[112, 117, 109, 112, 32, 112, 32, 109, 111, 115, 116, 32, 54, 53]⟩ : ByteArray), (⟨#[112, 117, 109, 112, 32, 112, 32, 109, 111, 115, 116, 32, 54, 52]⟩ : ByteArray), (⟨#[110, 111, 122, 122, 108, 101, 32, 97, 32, 111, 110, 32, 97, 32, 97, 116, 32, 48, 43, 48, 105, 32, 104, 101, 97, 100, 105, 110, 103, 32, 48, 32, 116, 105, 108, 116, 32, 48, 32, 109, 111, 115, 116, 32, 49]⟩ : ByteArray), (⟨#[110, 111, 122, 122, 108, 101, 32, 97, 32, 111, 110, 32, 112, 32, 97, 116, 32, 48, 43, 48, 105, 32, 104, 101, 97, 100, 105, 110, 103, 32, 48, 32, 116, 105, 108, 116, 32, 48, 32, 109, 111, 115, 116, 32, 49]⟩ : ByteArray), (⟨#[108, 97, 109, 112, 32, 122, 32, 111, 110, 32, 97, 32, 97, 116, 32, 48, 43, 48, 105]⟩ : ByteArray), (⟨#[108, 97, 109, 112, 32, 122, 32, 111, 110, 32, 97, 32, 97, 116, 32, 48]⟩ : ByteArray), (⟨#[118, 97, 108, 118, 101, 32, 118]⟩ : ByteArray), (⟨#[112, 117, 109, 112, 32, 112, 32, 109, 111, 115, 116, 32, 32, 49]⟩ : ByteArray)] : List ByteArray), x.size ≤ 100 ∧ ascii x by unfold ascii; decide)
   refine ⟨s, ?_, r⟩
   unfold spec_DrawParseDevice.f
   refine Ev.bind e0 ?_
   refine Ev.bind e ?_
   refine Ev.bind fc ?_
   simp only [e2, Option.bind_some, if_neg c0, if_pos c1]
   exact es
  ·refine ⟨_, ?_, by omega, ha⟩
   unfold spec_DrawParseDevice.f
   refine Ev.bind e0 ?_
   refine Ev.bind e ?_
   refine Ev.bind fc ?_
   simp only [e2, Option.bind_some, if_neg c0, if_neg c1]
   exact Ev.now _
theorem FnDeviceText_j0 (bs : List Int) (hb : bs.length < 1099511627776) : Ev (fun k => laws_FnDeviceText.j0 k bs false) true := by
 obtain ⟨s, es, hs, ha⟩ := DrawParseDevice_ok bs hb
 obtain ⟨z, ez, hz⟩ := impl_ParseDevice_sound s hs ha
 refine ev_succ ?_
 simp only [laws_FnDeviceText.j0, Bool.false_eq_true, if_false]
 refine Ev.bind es ?_
 refine Ev.bind ez ?_
 rcases hz with rfl | ⟨h1, h2, h3⟩
 ·simp only [zeroR, Bool.false_eq_true, if_false]
  exact Ev.now _
 ·simp only [if_pos h1]
  have hn : z.1.size ≤ 9223372036854775807 := by have := (pDev_num h2).1; omega
  have hl : z.2.2.1.size ≤ 9223372036854775807 := by
   rcases (dev_name h2).2 with hk | ⟨hk, hp⟩
   ·rw [((dev_vals h2).1 hk).1]; decide
   ·have := pName_size hp; omega
  refine Ev.bind (impl_FormatDevice_ev _ _ _ _ _ _ _ _ hn hl) ?_
  rw [h3, beq_self_eq_true]
  exact Ev.now _
theorem FnDeviceText : laws_FnDeviceText.Pure := by
 intro bs _ hb' _
 refine Ev.rounds ?_
 simp only [laws_FnDeviceText.f, laws_big_eq, Option.bind_some, decide_eq_true_eq]
 refine ev_ite (fun _ => Ev.now _) (fun h => ?_)
 have hb : bs.length < 1099511627776 := by omega
 obtain ⟨c, e, n1, n2⟩ := DrawFormatDevice_ok bs hb
 have hn : c.f0.size ≤ 9223372036854775807 := by omega
 have hl : c.f2.size ≤ 9223372036854775807 := by omega
 refine Ev.bind e ?_
 refine Ev.bind (impl_FormatDevice_ev _ _ _ _ _ _ _ _ hn hl) ?_
 have hj := FnDeviceText_j0 bs hb
 by_cases cc : pDevice c.f0 c.f1 c.f2 c.f3.f0 c.f3.f1 c.f4 c.f5 c.f6 = true
 ·refine Ev.bind (impl_ParseDevice_fmt cc) ?_
  refine Ev.bind (impl_IsDevice_ev _ _ _ _ _ _ _ _ hn hl) ?_
  refine Ev.bind (spec_IsDevice_ev _ _ _ _ _ _ _ _ hn hl) ?_
  simp only [bne_self_eq_false, Bool.false_eq_true, if_false]
  refine Ev.bind (impl_IsDevice_ev _ _ _ _ _ _ _ _ hn hl) ?_
  rw [cc]
  simp only [bne_self_eq_false, Bool.false_eq_true, if_false, if_true, beq_self_eq_true, Bool.not_true, Bool.or_self]
  exact hj
 ·have e0 : pDevT c.f0 c.f1 c.f2 c.f3.f0 c.f3.f1 c.f4 c.f5 c.f6 = ⟨#[]⟩ := by unfold pDevT; rw [if_neg cc]
  rw [e0]
  obtain ⟨z, ez, hz⟩ := impl_ParseDevice_sound (⟨#[]⟩ : ByteArray) (by decide) (fun b hb => by cases hb)
  refine Ev.bind ez ?_
  refine Ev.bind (impl_IsDevice_ev _ _ _ _ _ _ _ _ hn hl) ?_
  refine Ev.bind (spec_IsDevice_ev _ _ _ _ _ _ _ _ hn hl) ?_
  simp only [bne_self_eq_false, Bool.false_eq_true, if_false]
  refine Ev.bind (impl_IsDevice_ev _ _ _ _ _ _ _ _ hn hl) ?_
  have c' : pDevice c.f0 c.f1 c.f2 c.f3.f0 c.f3.f1 c.f4 c.f5 c.f6 = false := by simpa using cc
  rw [c']
  rcases hz with rfl | ⟨h1, h2, h3⟩
  ·simp only [zeroR, bne_self_eq_false, Bool.false_eq_true, if_false]
   exact hj
  ·exfalso
   exact dev_ne h2 (by rw [h3, ba_tl])

end Go.Proofs.YthofcclbkihemaaDoor.Pure
