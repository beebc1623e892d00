/- The law FnMovedRig comes to true for every input: a rig that is turned or moved, and back again, is as it was; nothing hangs on another line. (P2, P6) No condition beside the statement's own. -/
import Derived.Test.YtkljnmojnkiafaaStFnMovedRig
namespace Go.Proofs.Ytkljnmojnkiafaa.Pure
open Go Go.RowKit Go.Proofs.Ytkljnmojnkiafaa.MFnMovedRig Go.Proofs.YtkljnmojnkiafaaW.PrintWords Go.Proofs.YtkljnmojnkiafaaW.PrintLast Go.Proofs.YtkljnmojnkiafaaW.PrintMore
set_option linter.unusedVariables false
set_option linter.unusedSimpArgs false

theorem ev_succ {α : Type} {g : Nat → Option α} {r : α} (h : Ev (fun k => g (k + 1)) r) : Ev g r := Ev.step (fun _ => rfl) h
theorem ev_ite {α : Type} {c : Prop} [Decidable c] {f g : Nat → Option α} {r : α} (h : c → Ev f r) (h' : ¬ c → Ev g r) : Ev (fun k => if c then f k else g k) r := by
 by_cases hc : c
 ·simp only [if_pos hc]; exact h hc
 ·simp only [if_neg hc]; exact h' hc
theorem ix {α : Type} {l pre t : List α} {a : α} (h : l = pre ++ a :: t) (hl : l.length < 4611686018427387904) :
  (pre.length : Int) < (l.length : Int) ∧ (∀ d, l.getD pre.length d = a) ∧ wrap64 ((pre.length : Int) + 1) = ((pre ++ [a]).length : Int) ∧ l = (pre ++ [a]) ++ t := by
 subst h
 simp only [List.length_append, List.length_cons, List.length_nil] at *
 refine ⟨by omega, fun d => by simp [List.getD], by unfold wrap64; omega, by simp⟩
theorem ixn {α : Type} {l pre : List α} (h : l = pre ++ []) : ¬ (pre.length : Int) < (l.length : Int) := by
 subst h; simp
theorem nn (n : Nat) : (0 : Int) ≤ (n : Int) := Int.natCast_nonneg n
theorem w64 {n : Int} (h0 : -9223372036854775808 ≤ n) (h1 : n < 9223372036854775808) : wrap64 n = n := by unfold wrap64; omega
theorem mn_min (a b : Int) : mn a b = min a b := by unfold mn; omega
theorem mx_max (a b : Int) : mx a b = max a b := by unfold mx; omega
theorem set_app {α : Type} (pre t : List α) (a b : α) : (pre ++ a :: t).set pre.length b = pre ++ b :: t := by simp
theorem app1 {α : Type} (pre : List α) (a : α) (t : List α) : pre ++ a :: t = (pre ++ [a]) ++ t := by simp

/-- The numbers from c on, n of them. -/
def upto : Nat → Int → List Int
 | 0, _ => []
 | n + 1, c => c :: upto n (c + 1)
theorem upto_length : ∀ n c, (upto n c).length = n
 | 0, _ => rfl
 | n + 1, c => by simp [upto, upto_length n]

theorem spec_l1In_eq (a b c : Int) : spec_l1In.f a b c = some (decide (b ≤ a) && decide (a ≤ c)) := by
 unfold spec_l1In.f; split <;> simp <;> omega
theorem impl_isWithin_eq (a b c : Int) : impl_isWithin.f a b c = some (decide (b ≤ a) && decide (a ≤ c)) := by
 unfold impl_isWithin.f; split <;> simp <;> omega
def pSup (n : Int) : Bool := decide (0 ≤ n) && decide (n ≤ 512)
theorem spec_l5Supply_eq (n : Int) : spec_l5Supply.f n = some (pSup n) := by
 simp only [spec_l5Supply.f, spec_l1In_eq, Option.bind_some, pSup]
theorem impl_isSupply_eq (n : Int) : impl_isSupply.f n = some (pSup n) := by
 simp only [impl_isSupply.f, impl_isWithin_eq, Option.bind_some, pSup]
theorem and255 (x : Int) : 0 ≤ Go.bits .and .i64 x 255 ∧ Go.bits .and .i64 x 255 ≤ 255 := by
 have h : ((BitVec.ofInt 64 x) &&& (BitVec.ofInt 64 255)).toNat ≤ 255 := by
  rw [BitVec.toNat_and]
  refine Nat.le_trans Nat.and_le_right ?_
  decide
 have e : Go.bits .and .i64 x 255 = IntKind.i64.wrap (((BitVec.ofInt 64 x) &&& (BitVec.ofInt 64 255)).toNat : Int) := by
  rfl
 rw [e]
 generalize ((BitVec.ofInt 64 x) &&& (BitVec.ofInt 64 255)).toNat = m at h
 rw [IntKind.wrap_i64]; omega
theorem l1Byte_ok (b : List Int) (i h : Int) (hb : b.length < 1099511627776) (hi : 0 ≤ i) : ∃ r i' h', spec_l1Byte.f b i h = some (r, i', h') ∧ 0 ≤ i' ∧ 0 ≤ r ∧ r ≤ 255 := by
 unfold spec_l1Byte.f
 split
 ·exact ⟨_, _, _, rfl, by unfold wrap64; omega, and255 _⟩
 ·exact ⟨_, _, _, rfl, hi, and255 _⟩
theorem l1Below_ok (b : List Int) (i h n : Int) (hb : b.length < 1099511627776) (hi : 0 ≤ i) : ∃ r i' h', spec_l1Below.f b i h n = some (r, i', h') ∧ 0 ≤ i' ∧ 0 ≤ r ∧ (r < n ∨ n ≤ 0 ∧ r = 0) := by
 unfold spec_l1Below.f
 split
 ·exact ⟨_, _, _, rfl, hi, by omega, by omega⟩
 ·rename_i hn
  split
  ·obtain ⟨r, i', h', e, hi', h0, h1⟩ := l1Byte_ok b i h hb hi
   rw [e]; simp only [Option.bind_some]
   rw [if_neg (by omega)]
   exact ⟨_, _, _, rfl, hi', Int.tmod_nonneg _ h0, .inl (Int.tmod_lt_of_pos _ (by omega))⟩
  ·obtain ⟨r, i1, h1, e, hi1, h0, h255⟩ := l1Byte_ok b i h hb hi
   rw [e]; simp only [Option.bind_some]
   obtain ⟨r2, i2, h2, e2, hi2, h02, h2552⟩ := l1Byte_ok b i1 h1 hb hi1
   rw [e2]; simp only [Option.bind_some]
   obtain ⟨r3, i3, h3, e3, hi3, h03, h2553⟩ := l1Byte_ok b i2 h2 hb hi2
   rw [e3]; simp only [Option.bind_some]
   rw [if_neg (by omega)]
   refine ⟨_, _, _, rfl, hi3, Int.tmod_nonneg _ ?_, .inl (Int.tmod_lt_of_pos _ (by omega))⟩
   unfold wrap64; omega
theorem l1Once_ok (b : List Int) (i h n : Int) (hb : b.length < 1099511627776) (hi : 0 ≤ i) : ∃ r i' h', spec_l1Once.f b i h n = some (r, i', h') ∧ 0 ≤ i' := by
 obtain ⟨r, i', h', e, hi', h0, h1⟩ := l1Below_ok b i h n hb hi
 unfold spec_l1Once.f
 rw [e]; simp only [Option.bind_some]
 exact ⟨_, _, _, rfl, hi'⟩
theorem l1Int_ok (b : List Int) (i h : Int) (l : List Int) (hb : b.length < 1099511627776) (hi : 0 ≤ i) (hl : l ≠ []) : ∃ r i' h', spec_l1Int.f b i h l = some (r, i', h') ∧ 0 ≤ i' ∧ r ∈ l := by
 obtain ⟨r, i', h', e, hi', h0, h1⟩ := l1Below_ok b i h (l.length : Int) hb hi
 have hp : 0 < l.length := List.length_pos_iff.2 hl
 unfold spec_l1Int.f
 rw [e]; simp only [Option.bind_some]
 have hlt : r < (l.length : Int) := by omega
 rw [if_pos h0, if_pos hlt]
 refine ⟨_, _, _, rfl, hi', ?_⟩
 have h2 : r.toNat < l.length := by omega
 simp only [rd, List.getD_eq_getElem?_getD, List.getElem?_eq_getElem h2, Option.getD_some]
 exact List.getElem_mem _
theorem l1Odd_ok (b : List Int) (i h : Int) (hb : b.length < 1099511627776) (hi : 0 ≤ i) : ∃ r i' h', spec_l1Odd.f b i h = some (r, i', h') ∧ 0 ≤ i' := by
 unfold spec_l1Odd.f
 obtain ⟨r, i', h', e, hi', _⟩ := l1Int_ok b i h [(-1), 0, 1, 2, 3, 7, 8, 9, 15, 16, 17, 63, 64, 65, 999, 1000, 4096, 4097, 9223372036854775807, (-9223372036854775808)] hb hi (by simp)
 rw [e]; simp only [Option.bind_some]
 exact ⟨_, _, _, rfl, hi'⟩
theorem l1New_l0 (b : List Int) (hb : b.length < 1099511627776) : ∀ (d i : Nat) (h : Int), i + d = b.length → ∃ h', Ev (fun k => spec_l1New.l0 k b h (i : Int)) (b, 0, h') := by
 intro d
 induction d with
 | zero =>
  intro i h hd
  refine ⟨h, ev_succ ?_⟩
  simp only [spec_l1New.l0, if_neg (show ¬ ((i : Int) < (b.length : Int)) by omega)]
  exact Ev.now _
 | succ d ih =>
  intro i h hd
  by_cases h4 : (i : Int) < 4000
  ·obtain ⟨h', e⟩ := ih (i + 1) _ (by omega)
   refine ⟨h', ev_succ ?_⟩
   simp only [spec_l1New.l0, if_pos (show ((i : Int) < (b.length : Int)) by omega), if_pos h4, if_pos (nn _)]
   rw [show wrap64 ((i : Int) + 1) = ((i + 1 : Nat) : Int) by unfold wrap64; omega]
   exact e
  ·refine ⟨h, ev_succ ?_⟩
   simp only [spec_l1New.l0, if_pos (show ((i : Int) < (b.length : Int)) by omega), if_neg h4]
   exact Ev.now _
theorem l1New_ev (b : List Int) (hb : b.length < 1099511627776) : ∃ h', Ev (fun k => spec_l1New.f k b) (b, 0, h') := l1New_l0 b hb b.length 0 _ (by omega)
theorem laws_big_eq (b : List Int) : laws_big.f b = some (decide ((b.length : Int) > 4096)) := rfl
theorem ix2 {α : Type} {l pre t : List α} {p a : α} (h : l = (pre ++ [p]) ++ a :: t) (hl : l.length < 4611686018427387904) :
  (((pre ++ [p]).length : Int)) > 0 ∧ wrap64 (((pre ++ [p]).length : Int) - 1) = (pre.length : Int) ∧ (∀ d, l.getD pre.length d = p) ∧ (pre.length : Int) < (l.length : Int) := by
 subst h
 simp only [List.length_append, List.length_cons, List.length_nil] at *
 refine ⟨by omega, by unfold wrap64; omega, fun d => by simp [List.getD], by omega⟩
theorem ev_eq {α : Type} {f g : Nat → Option α} {r : α} (h : f = g) (k : Ev g r) : Ev f r := h ▸ k
def rotN : Nat → Int × Int → Int × Int
 | 0, p => p
 | k + 1, p => rotN k (wrap64 (-p.2), p.1)
/-- A place turned by n quarters. -/
def pTurn4 (n : Int) (p : Int × Int) : Int × Int := rotN (n % 4).toNat p
theorem impl_turns_eq (n : Int) : impl_turns.f n = some (n % 4) := by
 unfold impl_turns.f
 by_cases h : 0 ≤ n
 ·rw [Int.tmod_eq_emod_of_nonneg h, show wrap64 (n % 4 + 4) = n % 4 + 4 by unfold wrap64; omega, Int.tmod_eq_emod_of_nonneg (by omega)]
  congr 1; omega
 ·have h4 : Int.tmod n 4 = -(-n % 4) := by
   rw [← Int.tmod_eq_emod_of_nonneg (a := -n) (b := 4) (by omega), Int.neg_tmod, Int.neg_neg]
  rw [h4, show wrap64 (-(-n % 4) + 4) = -(-n % 4) + 4 by unfold wrap64; omega, Int.tmod_eq_emod_of_nonneg (by omega)]
  congr 1; omega
theorem impl_turned_l0 : ∀ (m : Nat) (i e x y : Int), 0 ≤ i → i + m = e → e < 10 → Ev (fun k => impl_turned.l0 k e i x y) (rotN m (x, y)) := by
 intro m
 induction m with
 | zero =>
  intro i e x y h0 h _
  refine ev_succ ?_
  simp only [impl_turned.l0, if_neg (show ¬ (i < e) by omega)]
  exact Ev.now _
 | succ m ih =>
  intro i e x y h0 h he
  refine ev_succ ?_
  simp only [impl_turned.l0, if_pos (show (i < e) by omega)]
  rw [show wrap64 (i + 1) = i + 1 by unfold wrap64; omega]
  exact ih (i + 1) e _ _ (by omega) (by omega) he
theorem impl_turned_ev (x y n : Int) : Ev (fun k => impl_turned.f k x y n) (pTurn4 n (x, y)) := by
 unfold impl_turned.f pTurn4
 simp only [impl_turns_eq, Option.bind_some]
 exact impl_turned_l0 (n % 4).toNat 0 (n % 4) x y (by omega) (by omega) (by omega)
def pHead (h : Int) : Bool := decide (0 ≤ h) && decide (h ≤ 3)
theorem spec_IsHeading_eq (h : Int) : spec_IsHeading.f h = some (pHead h) := by
 unfold spec_IsHeading.f pHead; split <;> simp <;> omega
theorem impl_IsHeading_eq (h : Int) : impl_IsHeading.f h = some (pHead h) := by
 simp only [impl_IsHeading.f, impl_isWithin_eq, Option.bind_some, pHead]
def pMeas (x : Int) : Bool := decide (-4096 ≤ x) && decide (x ≤ 4096)
theorem spec_IsMeasure_eq (x : Int) : spec_IsMeasure.f x = some (pMeas x) := by
 unfold spec_IsMeasure.f pMeas; split <;> simp <;> omega
def pMeas' (x : Int) : Bool := decide (-4096 ≤ x) && decide (x ≤ 4096)
theorem impl_IsMeasure_eq (x : Int) : impl_IsMeasure.f x = some (pMeas' x) := by
 simp only [impl_IsMeasure.f, impl_isWithin_eq, Option.bind_some, pMeas']
def pPlace (x y : Int) : Bool := (decide (-4096 ≤ x) && decide (x ≤ 4096)) && (decide (-4096 ≤ y) && decide (y ≤ 4096))
theorem spec_IsPlace_eq (x y : Int) : spec_IsPlace.f x y = some (pPlace x y) := by
 simp only [spec_IsPlace.f, spec_IsMeasure_eq, Option.bind_some, pPlace, pMeas]
 cases (decide (-4096 ≤ x) && decide (x ≤ 4096)) <;> simp
theorem impl_IsPlace_eq (x y : Int) : impl_IsPlace.f x y = some (pPlace x y) := by
 simp only [impl_IsPlace.f, impl_IsMeasure_eq, Option.bind_some, pPlace, pMeas']
 cases (decide (-4096 ≤ x) && decide (x ≤ 4096)) <;> simp
theorem l1Some_ok (b : List Int) (i h lo hi : Int) (hb : b.length < 1099511627776) (hi0 : 0 ≤ i) (h1 : lo ≤ hi) (h2 : -100000 ≤ lo) (h3 : hi ≤ 100000) : ∃ r i' h', spec_l1Some.f b i h lo hi = some (r, i', h') ∧ 0 ≤ i' ∧ lo ≤ r ∧ r ≤ hi := by
 unfold spec_l1Some.f
 obtain ⟨r, i', h', e, hi', h0, hr⟩ := l1Below_ok b i h (wrap64 ((wrap64 (hi - lo)) + 1)) hb hi0
 rw [e]; simp only [Option.bind_some]
 have : wrap64 ((wrap64 (hi - lo)) + 1) = hi - lo + 1 := by unfold wrap64; omega
 rw [this] at hr
 exact ⟨_, _, _, rfl, hi', by unfold wrap64; omega, by unfold wrap64; omega⟩
theorem l2Turns_ok (b : List Int) (i h : Int) (hb : b.length < 1099511627776) (hi : 0 ≤ i) : ∃ r i' h', spec_l2Turns.f b i h = some (r, i', h') ∧ 0 ≤ i' := by
 unfold spec_l2Turns.f
 obtain ⟨c, i1, h1, e1, hi1⟩ := l1Once_ok b i h 6 hb hi
 rw [e1]; simp only [Option.bind_some]
 split
 ·obtain ⟨x, i2, h2, e2, hi2⟩ := l1Odd_ok b i1 h1 hb hi1
  rw [e2]; simp only [Option.bind_some]
  exact ⟨_, _, _, rfl, hi2⟩
 ·obtain ⟨x, i2, h2, e2, hi2, _⟩ := l1Below_ok b i1 h1 12 hb hi1
  rw [e2]; simp only [Option.bind_some]
  exact ⟨_, _, _, rfl, hi2⟩
theorem pTurn4_cases (n : Int) : (n % 4 = 0 ∧ ∀ x y : Int, (-1000000 ≤ x ∧ x ≤ 1000000) ∧ (-1000000 ≤ y ∧ y ≤ 1000000) → pTurn4 n (x, y) = (x, y)) ∨ (n % 4 = 1 ∧ ∀ x y : Int, (-1000000 ≤ x ∧ x ≤ 1000000) ∧ (-1000000 ≤ y ∧ y ≤ 1000000) → pTurn4 n (x, y) = (-y, x)) ∨
  (n % 4 = 2 ∧ ∀ x y : Int, (-1000000 ≤ x ∧ x ≤ 1000000) ∧ (-1000000 ≤ y ∧ y ≤ 1000000) → pTurn4 n (x, y) = (-x, -y)) ∨ (n % 4 = 3 ∧ ∀ x y : Int, (-1000000 ≤ x ∧ x ≤ 1000000) ∧ (-1000000 ≤ y ∧ y ≤ 1000000) → pTurn4 n (x, y) = (y, -x)) := by
 have h : n % 4 = 0 ∨ n % 4 = 1 ∨ n % 4 = 2 ∨ n % 4 = 3 := by omega
 rcases h with h | h | h | h
 ·exact .inl ⟨h, fun x y _ => by rw [pTurn4, h]; rfl⟩
 ·refine .inr (.inl ⟨h, fun x y hb => ?_⟩)
  rw [pTurn4, h, show ((1 : Int)).toNat = 1 from rfl]
  simp only [rotN, Prod.mk.injEq]
  exact ⟨by unfold wrap64; omega, trivial⟩
 ·refine .inr (.inr (.inl ⟨h, fun x y hb => ?_⟩))
  rw [pTurn4, h, show ((2 : Int)).toNat = 2 from rfl]
  simp only [rotN, Prod.mk.injEq]
  exact ⟨by unfold wrap64; omega, by unfold wrap64; omega⟩
 ·refine .inr (.inr (.inr ⟨h, fun x y hb => ?_⟩))
  rw [pTurn4, h, show ((3 : Int)).toNat = 3 from rfl]
  simp only [rotN, Prod.mk.injEq]
  exact ⟨by unfold wrap64; omega, by unfold wrap64; omega⟩
theorem pTurn4_bound (n : Int) {x y B : Int} (hB : B ≤ 1000000) (h : (-B ≤ x ∧ x ≤ B) ∧ (-B ≤ y ∧ y ≤ B)) : (-B ≤ (pTurn4 n (x, y)).1 ∧ (pTurn4 n (x, y)).1 ≤ B) ∧ (-B ≤ (pTurn4 n (x, y)).2 ∧ (pTurn4 n (x, y)).2 ≤ B) := by
 rcases pTurn4_cases n with ⟨_, e⟩ | ⟨_, e⟩ | ⟨_, e⟩ | ⟨_, e⟩
 all_goals
  rw [e x y (by omega)]
  omega
theorem pTurn4_add (n : Int) {x y u v : Int} (h : (-100000 ≤ x ∧ x ≤ 100000) ∧ (-100000 ≤ y ∧ y ≤ 100000)) (k : (-100000 ≤ u ∧ u ≤ 100000) ∧ (-100000 ≤ v ∧ v ≤ 100000)) :
  pTurn4 n (x + u, y + v) = ((pTurn4 n (x, y)).1 + (pTurn4 n (u, v)).1, (pTurn4 n (x, y)).2 + (pTurn4 n (u, v)).2) := by
 rcases pTurn4_cases n with ⟨_, e⟩ | ⟨_, e⟩ | ⟨_, e⟩ | ⟨_, e⟩
 all_goals
  rw [e x y (by omega), e u v (by omega), e (x + u) (y + v) (by omega)]
  (try (apply Prod.ext <;> (try dsimp only) <;> omega))
theorem pTurn4_back (n m : Int) (hm : (n + m) % 4 = 0) {x y : Int} (h : (-100000 ≤ x ∧ x ≤ 100000) ∧ (-100000 ≤ y ∧ y ≤ 100000)) : pTurn4 m (pTurn4 n (x, y)) = (x, y) := by
 rcases pTurn4_cases n with ⟨hn, e⟩ | ⟨hn, e⟩ | ⟨hn, e⟩ | ⟨hn, e⟩ <;> rcases pTurn4_cases m with ⟨hk, e'⟩ | ⟨hk, e'⟩ | ⟨hk, e'⟩ | ⟨hk, e'⟩
 all_goals first
  | (exfalso; omega)
  | (rw [e x y (by omega), e' _ _ (by omega)]; try (apply Prod.ext <;> (try dsimp only) <;> omega))
theorem back_turns (n : Int) : (n + wrap64 (4 - Int.tmod n 4)) % 4 = 0 := by
 have : -3 ≤ Int.tmod n 4 ∧ Int.tmod n 4 ≤ 3 ∧ (n - Int.tmod n 4) % 4 = 0 := by
  by_cases h : 0 ≤ n
  ·rw [Int.tmod_eq_emod_of_nonneg h]; omega
  ·have h4 : Int.tmod n 4 = -(-n % 4) := by
    rw [← Int.tmod_eq_emod_of_nonneg (a := -n) (b := 4) (by omega), Int.neg_tmod, Int.neg_neg]
   rw [h4]; omega
 rw [show wrap64 (4 - Int.tmod n 4) = 4 - Int.tmod n 4 by unfold wrap64; omega]
 omega
def nmC (b : Int) (i : Nat) : Bool := (decide (97 ≤ b) && decide (b ≤ 122)) || ((decide (48 ≤ b) && decide (b ≤ 57)) && !decide (i = 0))
def nmR (a : ByteArray) : Nat → Nat → Bool
 | 0, _ => decide (1 ≤ (a.size : Int)) && decide ((a.size : Int) ≤ 8)
 | d + 1, i => nmC (bt a (i : Int)) i && nmR a d (i + 1)
def pName (a : ByteArray) : Bool := nmR a a.size 0
theorem spec_IsName_l0 (a : ByteArray) (ha : a.size ≤ 9223372036854775807) : ∀ (d i : Nat), i + d = a.size → Ev (fun k => spec_IsName.l0 k a (i : Int)) (nmR a d i) := by
 intro d
 induction d with
 | zero =>
  intro i h
  refine ev_succ ?_
  simp only [spec_IsName.l0, if_neg (show ¬ ((i : Int) < (a.size : Int)) by omega), nmR]
  refine ev_ite (fun c => ?_) (fun c => ?_)
  ·rw [decide_eq_true (show 1 ≤ (a.size : Int) by omega), Bool.true_and]; exact Ev.now _
  ·rw [decide_eq_false (show ¬ 1 ≤ (a.size : Int) by omega), Bool.false_and]; exact Ev.now _
 | succ d ih =>
  intro i h
  have ih' := ih (i + 1) (by omega)
  refine ev_succ ?_
  simp only [spec_IsName.l0, if_pos (show ((i : Int) < (a.size : Int)) by omega), if_pos (nn _), nmR]
  rw [show wrap64 ((i : Int) + 1) = ((i + 1 : Nat) : Int) by unfold wrap64; omega]
  generalize bt a (i : Int) = b
  have hi : ((i : Int) = 0) = (i = 0) := by simp
  simp only [nmC, hi]
  by_cases h1 : 97 ≤ b <;> by_cases h2 : b ≤ 122 <;> by_cases h3 : 48 ≤ b <;> by_cases h4 : b ≤ 57 <;> by_cases h5 : i = 0 <;> first | (exfalso; omega) | skip
  all_goals simp only [ge_iff_le, h1, h2, h3, h4, h5, decide_true, decide_false, Bool.true_and, Bool.false_and, Bool.and_true, Bool.and_false, Bool.or_true, Bool.true_or, Bool.or_false, Bool.false_or, Bool.not_true, Bool.not_false, if_true, if_false]
  all_goals first | exact Ev.now _ | exact ih' | (subst h5; exact ih')
theorem spec_IsName_ev (a : ByteArray) (ha : a.size ≤ 9223372036854775807) : Ev (fun k => spec_IsName.f k a) (pName a) := spec_IsName_l0 a ha a.size 0 (by omega)
theorem impl_IsName_l0 (a : ByteArray) (ha : a.size ≤ 9223372036854775807) : ∀ (d i : Nat), i + d = a.size → Ev (fun k => impl_IsName.l0 k a (a.size : Int) (i : Int)) (nmR a d i) := by
 intro d
 induction d with
 | zero =>
  intro i h
  refine ev_succ ?_
  simp only [impl_IsName.l0, if_neg (show ¬ ((i : Int) < (a.size : Int)) by omega), nmR, impl_isWithin_eq, Option.bind_some]
  exact Ev.now _
 | succ d ih =>
  intro i h
  have ih' := ih (i + 1) (by omega)
  refine ev_succ ?_
  simp only [impl_IsName.l0, if_pos (show ((i : Int) < (a.size : Int)) by omega), if_pos (nn _), nmR]
  rw [show wrap64 ((i : Int) + 1) = ((i + 1 : Nat) : Int) by unfold wrap64; omega]
  generalize bt a (i : Int) = b
  have hi : ((i : Int) = 0) = (i = 0) := by simp
  simp only [nmC, hi, gt_iff_lt, ← Int.not_le]
  by_cases h1 : 97 ≤ b <;> by_cases h2 : b ≤ 122 <;> by_cases h3 : 48 ≤ b <;> by_cases h4 : b ≤ 57 <;> by_cases h5 : i = 0 <;> first | (exfalso; omega) | skip
  all_goals simp only [ge_iff_le, h1, h2, h3, h4, h5, not_true_eq_false, not_false_eq_true, decide_true, decide_false, Bool.true_and, Bool.false_and, Bool.and_true, Bool.and_false, Bool.or_true, Bool.true_or, Bool.or_false, Bool.false_or, Bool.not_true, Bool.not_false, if_true, if_false]
  all_goals first | exact Ev.now _ | exact ih' | (subst h5; exact ih')
theorem impl_IsName_ev (a : ByteArray) (ha : a.size ≤ 9223372036854775807) : Ev (fun k => impl_IsName.f k a) (pName a) := impl_IsName_l0 a ha a.size 0 (by omega)
theorem bl_irrefl : ∀ x, Op.bytesLess x x = false
 | [] => rfl
 | a :: x => by
  simp only [Op.bytesLess, bl_irrefl x, Bool.and_false, Bool.or_false, decide_eq_false_iff_not]
  exact UInt8.lt_irrefl a
theorem bl_tri : ∀ x y, Op.bytesLess x y = false → Op.bytesLess y x = false → x = y
 | [], [], _, _ => rfl
 | [], _ :: _, h, _ => by simp [Op.bytesLess] at h
 | _ :: _, [], _, h => by simp [Op.bytesLess] at h
 | a :: x, b :: y, h, h' => by
  simp only [Op.bytesLess, Bool.or_eq_false_iff, decide_eq_false_iff_not] at h h'
  have hab : a = b := by
   have h1 := h.1; have h2 := h'.1
   exact UInt8.le_antisymm (UInt8.not_lt.1 h2) (UInt8.not_lt.1 h1)
  subst hab
  simp only [beq_self_eq_true, Bool.true_and] at h h'
  rw [bl_tri x y h.2 h'.2]
theorem bl_trans : ∀ x y z, Op.bytesLess x y = true → Op.bytesLess y z = true → Op.bytesLess x z = true
 | _, _, [], _, h => by cases ‹List UInt8› <;> simp [Op.bytesLess] at h
 | [], _, _ :: _, _, _ => rfl
 | _ :: _, [], _ :: _, h, _ => by simp [Op.bytesLess] at h
 | a :: x, b :: y, c :: z, h, h' => by
  simp only [Op.bytesLess, Bool.or_eq_true, decide_eq_true_eq, Bool.and_eq_true, beq_iff_eq] at h h' ⊢
  rcases h with h | ⟨h, h2⟩
  ·rcases h' with h' | ⟨h', h2'⟩
   ·exact .inl (UInt8.lt_trans h h')
   ·exact .inl (h' ▸ h)
  ·rcases h' with h' | ⟨h', h2'⟩
   ·exact .inl (h ▸ h')
   ·exact .inr ⟨h.trans h', bl_trans x y z h2 h2'⟩
/-- The order of cues. -/
def pCmpC (a : Int) (b : ByteArray) (c : Int) (d : ByteArray) : Int :=
 if a < c then -1 else if a = c then (if Op.bytesLess b.toList d.toList = true then -1 else if b.toList = d.toList then 0 else 1) else 1
theorem l1Str_ok (b : List Int) (i h : Int) (l : List ByteArray) (hb : b.length < 1099511627776) (hi : 0 ≤ i) (hl : l ≠ []) : ∃ r i' h', spec_l1Str.f b i h l = some (r, i', h') ∧ 0 ≤ i' ∧ r ∈ l := by
 obtain ⟨r, i', h', e, hi', h0, h1⟩ := l1Below_ok b i h (l.length : Int) hb hi
 have hp : 0 < l.length := List.length_pos_iff.2 hl
 unfold spec_l1Str.f
 rw [e]; simp only [Option.bind_some]
 have hlt : r < (l.length : Int) := by omega
 rw [if_pos h0, if_pos hlt]
 refine ⟨_, _, _, rfl, hi', ?_⟩
 have h2 : r.toNat < l.length := by omega
 simp only [rdOf, List.getD_eq_getElem?_getD, List.getElem?_eq_getElem h2, Option.getD_some]
 exact List.getElem_mem _
def i16 (a lo hi : Int) : Bool := decide (lo ≤ a) && decide (a ≤ hi)
def pJet (a b c d e : Int) : Bool := i16 a (-1024) 1024 && (i16 b (-1024) 1024 && (pHead c && (i16 d 0 16 && i16 e 1 32)))
def pLineOk (n l : ByteArray) : Bool := pName l && !(l.toList == n.toList)
/-- IsDevice -/
def pDevice (n : ByteArray) (k : Int) (l : ByteArray) (a b c d e : Int) : Bool :=
 pName n && (if k = 1 then pSup e && (l.toList == ([] : List UInt8) && ((a == 0 && (b == 0)) && (c == 0 && (d == 0))))
  else if k = 2 then pLineOk n l && (pJet a b c d 1 && i16 e 0 32)
  else if k = 3 then pLineOk n l && (pPlace a b && (c == 0 && (d == 0 && (e == 0)))) else false)
theorem ev_and {c : Bool} {f : Nat → Option Bool} {b : Bool} (h : c = true → Ev f b) : Ev (fun k => if c = true then f k else some false) (c && b) := by
 cases c
 ·simp only [Bool.false_eq_true, if_false, Bool.false_and]; exact Ev.now _
 ·simp only [if_true, Bool.true_and]; exact h rfl
theorem so_and (c b : Bool) : (if c = true then some b else some false) = some (c && b) := by cases c <;> rfl
theorem spec_IsJet_eq (a b c d e : Int) : spec_IsJet.f a b c d e = some (pJet a b c d e) := by
 simp only [spec_IsJet.f, spec_l1In_eq, spec_IsHeading_eq, Option.bind_some, pJet, i16, so_and]
theorem spec_IsDevice_ev (n : ByteArray) (k : Int) (l : ByteArray) (a b c d e : Int) (hn : n.size ≤ 9223372036854775807) (hl : l.size ≤ 9223372036854775807) : Ev (fun q => spec_IsDevice.f q n k l a b c d e) (pDevice n k l a b c d e) := by
 have j : ∀ x : Bool, x = pLineOk n l → Ev (fun q => spec_IsDevice.j0 q x n k l a b c d e) (pDevice n k l a b c d e) := by
  intro x hx
  refine ev_succ ?_
  simp only [spec_IsDevice.j0, spec_l6Jet.f, spec_IsJet_eq, spec_l5Supply_eq, spec_IsPlace_eq, spec_l1In_eq, Option.bind_some, so_and]
  refine Ev.bind (spec_IsName_ev n hn) ?_
  rw [pDevice, hx]
  refine ev_and (fun _ => ?_)
  refine ev_ite (fun h => ?_) (fun h => ?_)
  ·rw [if_pos h]; exact Ev.now _
  ·rw [if_neg h]
   refine ev_ite (fun h => ?_) (fun h => ?_)
   ·rw [if_pos h]; exact Ev.now _
   ·rw [if_neg h]
    refine ev_ite (fun h => ?_) (fun h => ?_)
    ·rw [if_pos h]; exact Ev.now _
    ·rw [if_neg h]; exact Ev.now _
 unfold spec_IsDevice.f
 refine Ev.bind (spec_IsName_ev l hl) ?_
 refine ev_ite (fun h => ?_) (fun h => ?_)
 ·refine j _ ?_
  rw [pLineOk, h, Bool.true_and]; rfl
 ·refine j _ ?_
  rw [pLineOk, Bool.eq_false_iff.2 h, Bool.false_and]
theorem impl_IsJet_eq (a b c d e : Int) : impl_IsJet.f a b c d e = some (pJet a b c d e) := by
 simp only [impl_IsJet.f, impl_isWithin_eq, impl_IsHeading_eq, Option.bind_some, pJet, i16, so_and]
theorem impl_IsDevice_ev (n : ByteArray) (k : Int) (l : ByteArray) (a b c d e : Int) (hn : n.size ≤ 9223372036854775807) (hl : l.size ≤ 9223372036854775807) : Ev (fun q => impl_IsDevice.f q n k l a b c d e) (pDevice n k l a b c d e) := by
 simp only [impl_IsDevice.f, impl_IsJet_eq, impl_isSupply_eq, impl_IsPlace_eq, impl_isWithin_eq, Option.bind_some, so_and]
 refine Ev.bind (impl_IsName_ev n hn) ?_
 rw [pDevice]
 refine ev_and (fun _ => ?_)
 refine ev_ite (fun h => ?_) (fun h => ?_)
 ·rw [if_pos h, Bool.and_comm]; exact Ev.now _
 ·rw [if_neg h]
  refine ev_ite (fun h => ?_) (fun h => ?_)
  ·rw [if_pos h]
   refine Ev.bind (impl_IsName_ev l hl) ?_
   rw [pLineOk, Bool.and_assoc]
   refine ev_and (fun _ => ?_)
   by_cases e : l.toList = n.toList
   ·simp only [if_pos e, e, beq_self_eq_true, Bool.not_true, Bool.false_and]; exact Ev.now _
   ·simp only [if_neg e, beq_eq_false_iff_ne.2 e, Bool.not_false, Bool.true_and]; exact Ev.now _
  ·rw [if_neg h]
   refine ev_ite (fun h => ?_) (fun h => ?_)
   ·rw [if_pos h]
    rw [show (pLineOk n l && (pPlace a b && (c == 0 && (d == 0 && (e == 0))))) = ((c == 0 && (d == 0 && (e == 0))) && (pLineOk n l && pPlace a b)) by cases pLineOk n l <;> cases pPlace a b <;> cases (c == 0 && (d == 0 && (e == 0))) <;> rfl]
    refine ev_and (fun _ => ?_)
    refine Ev.bind (impl_IsName_ev l hl) ?_
    rw [pLineOk, Bool.and_assoc]
    refine ev_and (fun _ => ?_)
    by_cases e : l.toList = n.toList
    ·simp only [if_pos e, e, beq_self_eq_true, Bool.not_true, Bool.false_and]; exact Ev.now _
    ·simp only [if_neg e, beq_eq_false_iff_ne.2 e, Bool.not_false, Bool.true_and]; exact Ev.now _
   ·rw [if_neg h]; exact Ev.now _
theorem l1Word_ok (b : List Int) (i h : Int) (hb : b.length < 1099511627776) (hi : 0 ≤ i) : ∃ r i' h', spec_l1Word.f b i h = some (r, i', h') ∧ 0 ≤ i' ∧ r.size ≤ 1000 := by
 have key : ∀ L : List ByteArray, L ≠ [] → (∀ x ∈ L, x.size ≤ 1000) → ∃ r i' h', ((spec_l1Str.f b i h L).bind fun bt => some (bt.1, bt.2.1, bt.2.2)) = some (r, i', h') ∧ 0 ≤ i' ∧ r.size ≤ 1000 := by
  intro L h1 h2
  obtain ⟨r, i', h', e, hi', hr⟩ := l1Str_ok b i h L hb hi h1
  exact ⟨r, i', h', by rw [e]; rfl, hi', h2 r hr⟩
 exact key _ (by simp) (by decide)
abbrev De := S87
def dIdx (x : ByteArray) : List De → Int → Int
 | [], _ => -1
 | a :: t, i => if a.f0.toList = x.toList then i else dIdx x t (i + 1)
/-- FindDevice -/
def pFind (l : List De) (x : ByteArray) : Int := dIdx x l 0
theorem dIdx_range (x : ByteArray) : ∀ (l : List De) (i : Int), dIdx x l i = -1 ∨ (i ≤ dIdx x l i ∧ dIdx x l i < i + l.length)
 | [], _ => .inl rfl
 | a :: t, i => by
  rw [dIdx]
  by_cases c : a.f0.toList = x.toList
  ·rw [if_pos c]; right; simp; omega
  ·rw [if_neg c]
   rcases dIdx_range x t (i + 1) with h | h
   ·exact .inl h
   ·right; simp at h ⊢; omega
theorem pFind_range (l : List De) (x : ByteArray) : pFind l x = -1 ∨ (0 ≤ pFind l x ∧ pFind l x < l.length) := by
 have := dIdx_range x l 0
 unfold pFind; omega
theorem spec_FindDevice_l0 (l : List De) (x : ByteArray) (hl : l.length < 1099511627776) : ∀ (suf pre : List De), l = pre ++ suf →
  Ev (fun k => spec_FindDevice.l0 k x l (l.length : Int) (pre.length : Int)) (dIdx x suf (pre.length : Int)) := by
 intro suf
 induction suf with
 | nil =>
  intro pre h
  refine ev_succ ?_
  simp only [spec_FindDevice.l0, if_neg (ixn h)]
  exact Ev.now _
 | cons a s ih =>
  intro pre h
  obtain ⟨h1, h2, h3, h4⟩ := ix h (by omega)
  refine ev_succ ?_
  simp only [spec_FindDevice.l0, if_pos h1, if_pos (nn _), Int.toNat_natCast, rd_T87, h2, h3]
  rw [dIdx]
  refine ev_ite (fun c => ?_) (fun c => ?_)
  ·rw [if_pos c]; exact Ev.now _
  ·rw [if_neg c]
   have := ih _ h4
   rwa [show ((pre ++ [a]).length : Int) = (pre.length : Int) + 1 by simp] at this ⊢
theorem spec_FindDevice_ev (l : List De) (x : ByteArray) (hl : l.length < 1099511627776) : Ev (fun k => spec_FindDevice.f k l x) (pFind l x) := spec_FindDevice_l0 l x hl l [] rfl
theorem impl_FindDevice_l0 (l : List De) (x : ByteArray) (hl : l.length < 1099511627776) : ∀ (suf pre : List De), l = pre ++ suf →
  Ev (fun k => impl_FindDevice.l0 k x l (l.length : Int) (pre.length : Int)) (dIdx x suf (pre.length : Int)) := by
 intro suf
 induction suf with
 | nil =>
  intro pre h
  refine ev_succ ?_
  simp only [impl_FindDevice.l0, if_neg (ixn h)]
  exact Ev.now _
 | cons a s ih =>
  intro pre h
  obtain ⟨h1, h2, h3, h4⟩ := ix h (by omega)
  refine ev_succ ?_
  simp only [impl_FindDevice.l0, if_pos h1, if_pos (nn _), Int.toNat_natCast, rd_T87, h2, h3]
  rw [dIdx]
  refine ev_ite (fun c => ?_) (fun c => ?_)
  ·rw [if_pos c]; exact Ev.now _
  ·rw [if_neg c]
   have := ih _ h4
   rwa [show ((pre ++ [a]).length : Int) = (pre.length : Int) + 1 by simp] at this ⊢
theorem impl_FindDevice_ev (l : List De) (x : ByteArray) (hl : l.length < 1099511627776) : Ev (fun k => impl_FindDevice.f k l x) (pFind l x) := impl_FindDevice_l0 l x hl l [] rfl
def szD (l : List De) : Prop := ∀ c ∈ l, c.f0.size ≤ 9223372036854775807 ∧ c.f2.size ≤ 9223372036854775807
theorem szD_mid {l pre t : List De} {a : De} (h : szD l) (e : l = pre ++ a :: t) : a.f0.size ≤ 9223372036854775807 ∧ a.f2.size ≤ 9223372036854775807 := h a (by simp [e])
def dOk (d : De) : Bool := pDevice d.f0 d.f1 d.f2 d.f3.f0 d.f3.f1 d.f4 d.f5 d.f6
/-- The line of a device names such a device as it has to. -/
def pHung (l : List De) (d : De) : Bool := if d.f1 = 1 then true else if 0 ≤ pFind l d.f2 then ((l.getD (pFind l d.f2).toNat z87).f1 == d.f1 - 1) else false
theorem dOk_kind {d : De} (h : dOk d = true) : d.f1 = 1 ∨ d.f1 = 2 ∨ d.f1 = 3 := by
 unfold dOk pDevice at h
 by_cases h1 : d.f1 = 1
 ·exact .inl h1
 ·by_cases h2 : d.f1 = 2
  ·exact .inr (.inl h2)
  ·by_cases h3 : d.f1 = 3
   ·exact .inr (.inr h3)
   ·rw [if_neg h1, if_neg h2, if_neg h3, Bool.and_false] at h; cases h
def gRest (l : List De) : De → List De → Bool
 | _, [] => true
 | p, q :: t => dOk q && (Op.bytesLess p.f0.toList q.f0.toList && (pHung l q && gRest l q t))
def gAll (l : List De) : List De → Bool
 | [] => true
 | q :: t => dOk q && (pHung l q && gRest l q t)
/-- IsRig -/
def pRig (l : List De) : Bool := gAll l l && decide ((l.length : Int) ≤ 8)
theorem pRig_len {l : List De} (h : pRig l = true) : l.length ≤ 8 := by
 simp only [pRig, Bool.and_eq_true, decide_eq_true_eq] at h; omega
theorem spec_l6Hangs_ev (l : List De) (d : De) (hl : l.length < 1099511627776) (hd : dOk d = true) : Ev (fun k => spec_l6Hangs.f k l d.f0 d.f1 d.f2 d.f3.f0 d.f3.f1 d.f4 d.f5 d.f6) (pHung l d) := by
 unfold spec_l6Hangs.f
 refine Ev.bind (spec_FindDevice_ev l d.f2 hl) ?_
 unfold pHung
 rcases dOk_kind hd with h | h | h
 ·simp only [h, if_neg (show ¬ (1 : Int) = 2 by omega), if_neg (show ¬ (1 : Int) = 3 by omega), if_true]; exact Ev.now _
 ·simp only [h, if_true, if_neg (show ¬ (2 : Int) = 1 by omega)]
  refine ev_ite (fun c => ?_) (fun c => ?_)
  ·have := pFind_range l d.f2
   simp only [if_pos (show 0 ≤ pFind l d.f2 from c), if_pos (show pFind l d.f2 < (l.length : Int) by omega), rd_T87]
   exact Ev.now _
  ·rw [if_neg (show ¬ 0 ≤ pFind l d.f2 from c)]; exact Ev.now _
 ·simp only [h, if_true, if_neg (show ¬ (3 : Int) = 1 by omega), if_neg (show ¬ (3 : Int) = 2 by omega)]
  refine ev_ite (fun c => ?_) (fun c => ?_)
  ·have := pFind_range l d.f2
   simp only [if_pos (show 0 ≤ pFind l d.f2 from c), if_pos (show pFind l d.f2 < (l.length : Int) by omega), rd_T87]
   exact Ev.now _
  ·rw [if_neg (show ¬ 0 ≤ pFind l d.f2 from c)]; exact Ev.now _
theorem impl_isHung_ev (l : List De) (d : De) (hl : l.length < 1099511627776) (hd : dOk d = true) : Ev (fun k => impl_isHung.f k l d.f0 d.f1 d.f2 d.f3.f0 d.f3.f1 d.f4 d.f5 d.f6) (pHung l d) := by
 unfold impl_isHung.f pHung
 refine ev_ite (fun c => ?_) (fun c => ?_)
 ·rw [if_pos c]; exact Ev.now _
 ·rw [if_neg c]
  refine Ev.bind (impl_FindDevice_ev l d.f2 hl) ?_
  have hk := dOk_kind hd
  have hw : wrap64 (d.f1 - 1) = d.f1 - 1 := by unfold wrap64; omega
  rw [hw]
  refine ev_ite (fun c => ?_) (fun c => ?_)
  ·have := pFind_range l d.f2
   simp only [if_pos (show 0 ≤ pFind l d.f2 from c), if_pos (show pFind l d.f2 < (l.length : Int) by omega), rd_T87]
   exact Ev.now _
  ·rw [if_neg (show ¬ 0 ≤ pFind l d.f2 from c)]; exact Ev.now _
theorem spec_IsRig_l0 (l : List De) (hl : l.length < 1099511627776) (hz : szD l) : ∀ (suf pre : List De) (p : De), l = (pre ++ [p]) ++ suf →
  Ev (fun k => spec_IsRig.l0 k l l (l.length : Int) ((pre ++ [p]).length : Int)) (gRest l p suf && decide ((l.length : Int) ≤ 8)) := by
 intro suf
 induction suf with
 | nil =>
  intro pre p h
  refine ev_succ ?_
  simp only [spec_IsRig.l0, if_neg (ixn h), gRest, Bool.true_and]
  exact Ev.now _
 | cons a t ih =>
  intro pre p h
  obtain ⟨h1, h2, h3, h4⟩ := ix h (by omega)
  obtain ⟨h5, h6, h7, h8⟩ := ix2 h (by omega)
  have hza := szD_mid hz h
  refine ev_succ ?_
  simp only [spec_IsRig.l0, if_pos h1, if_pos (nn _), Int.toNat_natCast, rd_T87, h2, h3, h6, h7, if_pos h5, if_pos h8]
  rw [gRest]
  refine Ev.bind (spec_IsDevice_ev _ _ _ _ _ _ _ _ hza.1 hza.2) ?_
  change Ev (fun k => if dOk a = true then _ else _) _
  refine ev_ite (fun c1 => ?_) (fun c1 => ?_)
  ·rw [c1, Bool.true_and]
   refine ev_ite (fun c3 => ?_) (fun c3 => ?_)
   ·rw [c3, Bool.true_and]
    refine Ev.bind (spec_l6Hangs_ev l a hl c1) ?_
    refine ev_ite (fun c4 => ?_) (fun c4 => ?_)
    ·rw [c4, Bool.true_and]; exact ih (pre ++ [p]) a h4
    ·rw [Bool.eq_false_iff.2 c4, Bool.false_and, Bool.false_and]; exact Ev.now _
   ·rw [Bool.eq_false_iff.2 c3, Bool.false_and, Bool.false_and]; exact Ev.now _
  ·rw [Bool.eq_false_iff.2 c1, Bool.false_and, Bool.false_and]; exact Ev.now _
theorem spec_IsRig_ev (l : List De) (hl : l.length < 1099511627776) (hz : szD l) : Ev (fun k => spec_IsRig.f k l) (pRig l) := by
 unfold spec_IsRig.f pRig
 refine ev_succ ?_
 cases l with
 | nil =>
  simp only [spec_IsRig.l0]
  exact Ev.now _
 | cons a t =>
  obtain ⟨h1, h2, h3, h4⟩ := ix (l := a :: t) (pre := []) rfl (by omega)
  have hza := szD_mid (pre := []) hz rfl
  simp only [List.length_nil, Int.natCast_zero] at h1 h2 h3
  simp only [spec_IsRig.l0, if_pos h1, if_pos (show (0 : Int) ≤ 0 by omega), Int.toNat_zero, rd_T87, h2, h3, if_neg (show ¬ ((0 : Int) > 0) by omega)]
  rw [gAll]
  refine Ev.bind (spec_IsDevice_ev _ _ _ _ _ _ _ _ hza.1 hza.2) ?_
  change Ev (fun k => if dOk a = true then _ else _) _
  refine ev_ite (fun c1 => ?_) (fun c1 => ?_)
  ·rw [c1, Bool.true_and]
   refine Ev.bind (spec_l6Hangs_ev (a :: t) a hl c1) ?_
   refine ev_ite (fun c4 => ?_) (fun c4 => ?_)
   ·rw [c4, Bool.true_and]; exact spec_IsRig_l0 (a :: t) hl hz t [] a rfl
   ·rw [Bool.eq_false_iff.2 c4, Bool.false_and, Bool.false_and]; exact Ev.now _
  ·rw [Bool.eq_false_iff.2 c1, Bool.false_and, Bool.false_and]; exact Ev.now _
theorem impl_IsRig_l0 (l : List De) (hl : l.length < 1099511627776) (hz : szD l) : ∀ (suf pre : List De) (p : De), l = (pre ++ [p]) ++ suf →
  Ev (fun k => impl_IsRig.l0 k l l (l.length : Int) ((pre ++ [p]).length : Int)) (gRest l p suf) := by
 intro suf
 induction suf with
 | nil =>
  intro pre p h
  refine ev_succ ?_
  simp only [impl_IsRig.l0, if_neg (ixn h), gRest]
  exact Ev.now _
 | cons a t ih =>
  intro pre p h
  obtain ⟨h1, h2, h3, h4⟩ := ix h (by omega)
  obtain ⟨h5, h6, h7, h8⟩ := ix2 h (by omega)
  have hza := szD_mid hz h
  refine ev_succ ?_
  simp only [impl_IsRig.l0, if_pos h1, if_pos (nn _), Int.toNat_natCast, rd_T87, h2, h3, h6, h7, if_pos h5, if_pos h8]
  rw [gRest]
  refine Ev.bind (impl_IsDevice_ev _ _ _ _ _ _ _ _ hza.1 hza.2) ?_
  change Ev (fun k => if dOk a = true then _ else _) _
  refine ev_ite (fun c1 => ?_) (fun c1 => ?_)
  ·rw [c1, Bool.true_and]
   refine ev_ite (fun c3 => ?_) (fun c3 => ?_)
   ·rw [c3, Bool.true_and]
    refine Ev.bind (impl_isHung_ev l a hl c1) ?_
    refine ev_ite (fun c4 => ?_) (fun c4 => ?_)
    ·rw [c4, Bool.true_and]; exact ih (pre ++ [p]) a h4
    ·rw [Bool.eq_false_iff.2 c4, Bool.false_and]; exact Ev.now _
   ·rw [Bool.eq_false_iff.2 c3, Bool.false_and]; exact Ev.now _
  ·rw [Bool.eq_false_iff.2 c1, Bool.false_and]; exact Ev.now _
theorem impl_IsRig_ev (l : List De) (hl : l.length < 1099511627776) (hz : szD l) : Ev (fun k => impl_IsRig.f k l) (pRig l) := by
 unfold impl_IsRig.f pRig
 refine ev_ite (fun c => ?_) (fun c => ?_)
 ·rw [decide_eq_false (by omega), Bool.and_false]; exact Ev.now _
 rw [decide_eq_true (by omega), Bool.and_true]
 refine ev_succ ?_
 cases l with
 | nil =>
  simp only [impl_IsRig.l0]
  exact Ev.now _
 | cons a t =>
  obtain ⟨h1, h2, h3, h4⟩ := ix (l := a :: t) (pre := []) rfl (by omega)
  have hza := szD_mid (pre := []) hz rfl
  simp only [List.length_nil, Int.natCast_zero] at h1 h2 h3
  simp only [impl_IsRig.l0, if_pos h1, if_pos (show (0 : Int) ≤ 0 by omega), Int.toNat_zero, rd_T87, h2, h3, if_neg (show ¬ ((0 : Int) > 0) by omega)]
  rw [gAll]
  refine Ev.bind (impl_IsDevice_ev _ _ _ _ _ _ _ _ hza.1 hza.2) ?_
  change Ev (fun k => if dOk a = true then _ else _) _
  refine ev_ite (fun c1 => ?_) (fun c1 => ?_)
  ·rw [c1, Bool.true_and]
   refine Ev.bind (impl_isHung_ev (a :: t) a hl c1) ?_
   refine ev_ite (fun c4 => ?_) (fun c4 => ?_)
   ·rw [c4, Bool.true_and]; exact impl_IsRig_l0 (a :: t) hl hz t [] a rfl
   ·rw [Bool.eq_false_iff.2 c4, Bool.false_and]; exact Ev.now _
  ·rw [Bool.eq_false_iff.2 c1, Bool.false_and]; exact Ev.now _
theorem gRest_mem (l : List De) : ∀ (t : List De) (p : De), gRest l p t = true → ∀ d ∈ t, dOk d = true ∧ pHung l d = true
 | [], _, _, d, hd => by cases hd
 | q :: t, p, h, d, hd => by
  simp only [gRest, Bool.and_eq_true] at h
  cases hd with
  | head => exact ⟨h.1, h.2.2.1⟩
  | tail _ hd => exact gRest_mem l t q h.2.2.2 d hd
theorem pRig_mem {l : List De} (h : pRig l = true) : ∀ d ∈ l, dOk d = true ∧ pHung l d = true := by
 simp only [pRig, Bool.and_eq_true] at h
 have h := h.1
 intro d hd
 cases l with
 | nil => cases hd
 | cons q t =>
  simp only [gAll, Bool.and_eq_true] at h
  cases hd with
  | head => exact ⟨h.1, h.2.1⟩
  | tail _ hd => exact gRest_mem (q :: t) t q h.2.2 d hd
theorem nmName_ne {a : ByteArray} (h : pName a = true) : a.toList ≠ [] := by
 intro e
 have hs : a.size = 0 := by
  have : a.toList.length = a.size := by rw [ByteArray.toList_eq, Array.length_toList]; rfl
  rw [e] at this; simpa using this.symm
 rw [pName, hs, nmR, hs] at h
 simp at h
theorem dOk_line {d : De} (h : dOk d = true) : (d.f1 = 1 ↔ d.f2.toList = []) := by
 have hk := dOk_kind h
 unfold dOk pDevice at h
 simp only [Bool.and_eq_true] at h
 constructor
 ·intro h1
  have h2 := h.2
  rw [if_pos h1] at h2
  simp only [Bool.and_eq_true, beq_iff_eq] at h2
  exact h2.2.1
 ·intro e
  by_cases h1 : d.f1 = 1
  ·exact h1
  ·have h2 := h.2
   rw [if_neg h1] at h2
   exfalso
   by_cases h3 : d.f1 = 2
   ·rw [if_pos h3] at h2
    simp only [pLineOk, Bool.and_eq_true] at h2
    exact nmName_ne h2.1.1 e
   ·rw [if_neg h3, if_pos (by omega)] at h2
    simp only [pLineOk, Bool.and_eq_true] at h2
    exact nmName_ne h2.1.1 e
def pPumpN (l : List De) : Nat → Int → ByteArray
 | 0, _ => ⟨#[]⟩
 | n + 1, i => if (l.getD i.toNat z87).f1 = 1 then (l.getD i.toNat z87).f0 else pPumpN l n (pFind l (l.getD i.toNat z87).f2)
/-- PumpOf -/
def pPump (l : List De) (x : ByteArray) : ByteArray := if pRig l = true then (if pFind l x < 0 then ⟨#[]⟩ else pPumpN l 3 (pFind l x)) else ⟨#[]⟩
theorem pFind_mem {l : List De} {i : Int} (h0 : 0 ≤ i) (h1 : i < l.length) : l.getD i.toNat z87 ∈ l := by
 have h2 : i.toNat < l.length := by omega
 rw [List.getD_eq_getElem?_getD, List.getElem?_eq_getElem h2, Option.getD_some]; exact List.getElem_mem _
theorem pHung_step {l : List De} {d : De} (h : pHung l d = true) (h1 : ¬ d.f1 = 1) : 0 ≤ pFind l d.f2 ∧ (l.getD (pFind l d.f2).toNat z87).f1 = d.f1 - 1 := by
 unfold pHung at h
 rw [if_neg h1] at h
 by_cases c : 0 ≤ pFind l d.f2
 ·rw [if_pos c] at h; exact ⟨c, by simpa using h⟩
 ·rw [if_neg c] at h; cases h
theorem impl_PumpOf_l0 (l : List De) (hr : pRig l = true) : ∀ (n : Nat) (i : Int), 0 ≤ i → i < l.length → (l.getD i.toNat z87).f1 ≤ n →
  Ev (fun k => impl_PumpOf.l0 k l i) (pPumpN l n i) := by
 have hl : l.length < 1099511627776 := by have := pRig_len hr; omega
 intro n
 induction n with
 | zero =>
  intro i h0 h1 hk
  have := dOk_kind (pRig_mem hr _ (pFind_mem h0 h1)).1
  omega
 | succ n ih =>
  intro i h0 h1 hk
  obtain ⟨hd, hh⟩ := pRig_mem hr _ (pFind_mem h0 h1)
  have hln := dOk_line hd
  refine ev_succ ?_
  simp only [impl_PumpOf.l0, if_pos h0, if_pos h1, rd_T87, pPumpN]
  refine ev_ite (fun c => ?_) (fun c => ?_)
  ·rw [if_pos (hln.2 c)]; exact Ev.now _
  ·have c' : ¬ (l.getD i.toNat z87).f1 = 1 := fun e => c (hln.1 e)
   rw [if_neg c']
   obtain ⟨s1, s2⟩ := pHung_step hh c'
   refine Ev.bind (impl_FindDevice_ev l _ hl) ?_
   have := pFind_range l (l.getD i.toNat z87).f2
   exact ih _ s1 (by omega) (by omega)
theorem impl_PumpOf_ev (l : List De) (x : ByteArray) (hl : l.length < 1099511627776) (hz : szD l) : Ev (fun k => impl_PumpOf.f k l x) (pPump l x) := by
 have j1 : Ev (fun k => impl_PumpOf.j0 k l (pFind l x) true) (⟨#[]⟩ : ByteArray) := by
  refine ev_succ ?_
  simp only [impl_PumpOf.j0, if_true]; exact Ev.now _
 unfold impl_PumpOf.f pPump
 refine Ev.bind (impl_FindDevice_ev l x hl) ?_
 refine Ev.bind (impl_IsRig_ev l hl hz) ?_
 refine ev_ite (fun h => ?_) (fun h => ?_)
 ·rw [if_pos h]
  by_cases c : pFind l x < 0
  ·rw [if_pos c]; simpa only [decide_eq_true c] using j1
  ·rw [if_neg c]
   refine ev_succ ?_
   simp only [impl_PumpOf.j0, decide_eq_false c, Bool.false_eq_true, if_false]
   have hx := pFind_range l x
   have hm := pFind_mem (l := l) (i := pFind l x) (by omega) (by omega)
   have hk := dOk_kind (pRig_mem h _ hm).1
   exact impl_PumpOf_l0 l h 3 _ (by omega) (by omega) (by omega)
 ·rw [if_neg h]; exact j1
theorem spec_l6Copies_eq (l : List De) (hl : l.length < 1099511627776) : spec_l6Copies.f l = some l := by
 simp only [spec_l6Copies.f, Option.bind_some, List.length_nil, if_pos (show 0 + l.length < 1759218604441 by omega), List.nil_append]
theorem impl_CloneD_eq (l : List De) (hl : l.length < 1099511627776) : impl_Device.f l = some l := by
 simp only [impl_Device.f, Option.bind_some, List.length_nil, if_pos (show 0 + l.length < 1759218604441 by omega), List.nil_append]
theorem gRest_all (l : List De) : ∀ (t : List De) (p : De), gRest l p t = true → ∀ d ∈ t, dOk d = true
 | [], _, _, d, hd => by cases hd
 | q :: t, p, h, d, hd => by
  simp only [gRest, Bool.and_eq_true] at h
  cases hd with
  | head => exact h.1
  | tail _ hd => exact gRest_all l t q h.2.2.2 d hd
theorem pRig_dOk {l : List De} (h : pRig l = true) : ∀ d ∈ l, dOk d = true := by
 simp only [pRig, Bool.and_eq_true] at h
 have h1 := h.1
 generalize l = m at h1 ⊢
 intro d hd
 revert h1
 generalize hq : m = q
 intro h1
 subst hq
 cases m with
 | nil => cases hd
 | cons q t =>
  simp only [gAll, Bool.and_eq_true] at h1
  cases hd with
  | head => exact h1.1
  | tail _ hd => exact gRest_all _ t q h1.2.2 d hd
/-- A device turned by n quarters. -/
def dTurn (n : Int) (d : De) : De := ⟨d.f0, d.f1, d.f2, ⟨(pTurn4 n (d.f3.f0, d.f3.f1)).1, (pTurn4 n (d.f3.f0, d.f3.f1)).2⟩, if d.f1 = 2 then (d.f4 + n % 4) % 4 else d.f4, d.f5, d.f6⟩
def inB (B : Int) (p : Int × Int) : Prop := (-B ≤ p.1 ∧ p.1 ≤ B) ∧ (-B ≤ p.2 ∧ p.2 ≤ B)
theorem rotN_in (B : Int) (hB : B ≤ 4096) : ∀ (m : Nat) (p : Int × Int), inB B p → inB B (rotN m p)
 | 0, _, h => h
 | m + 1, p, h => rotN_in B hB m _ (by
  unfold inB at *
  have : wrap64 (-p.2) = -p.2 := by unfold wrap64; omega
  simp only [this]; omega)
theorem rotN_zero : ∀ (m : Nat), rotN m (0, 0) = (0, 0)
 | 0 => rfl
 | m + 1 => by
  have : wrap64 (-(0 : Int)) = 0 := by unfold wrap64; omega
  rw [rotN]; simp only [this]; exact rotN_zero m
theorem pHead_iff (h : Int) : pHead h = true ↔ 0 ≤ h ∧ h ≤ 3 := by simp [pHead]
theorem i16_iff (a x y : Int) : i16 a x y = true ↔ x ≤ a ∧ a ≤ y := by simp [i16]
theorem dOk_place {d : De} (h : dOk d = true) : inB 4096 (d.f3.f0, d.f3.f1) ∧ (d.f1 = 1 → d.f3.f0 = 0 ∧ d.f3.f1 = 0) ∧ (d.f1 = 2 → (0 ≤ d.f4 ∧ d.f4 ≤ 3) ∧ inB 1024 (d.f3.f0, d.f3.f1)) := by
 unfold dOk pDevice at h
 unfold inB
 by_cases h1 : d.f1 = 1
 ·rw [if_pos h1] at h
  simp only [Bool.and_eq_true, beq_iff_eq] at h
  obtain ⟨_, _, _, ⟨h3, h4⟩, _⟩ := h
  refine ⟨by simp only [h3, h4]; omega, fun _ => ⟨h3, h4⟩, fun h => by omega⟩
 ·rw [if_neg h1] at h
  by_cases h2 : d.f1 = 2
  ·rw [if_pos h2] at h
   simp only [pJet, Bool.and_eq_true, pHead_iff, i16_iff] at h
   obtain ⟨_, _, ⟨h3, h4, h5, _⟩, _⟩ := h
   exact ⟨⟨⟨by omega, by omega⟩, ⟨by omega, by omega⟩⟩, fun h => absurd h h1, fun _ => ⟨h5, h3, h4⟩⟩
  ·rw [if_neg h2] at h
   by_cases h3 : d.f1 = 3
   ·rw [if_pos h3] at h
    simp only [pPlace, Bool.and_eq_true, decide_eq_true_eq] at h
    refine ⟨?_, fun h => absurd h h1, fun h => absurd h h2⟩
    have := h.2.2.1
    exact this
   ·rw [if_neg h3] at h; simp at h
theorem dTurn_ok {d : De} (h : dOk d = true) (n : Int) : dOk (dTurn n d) = true := by
 obtain ⟨hb, h1, h2⟩ := dOk_place h
 have hr := rotN_in 4096 (by omega) (n % 4).toNat _ hb
 have hm1 := Int.emod_nonneg (d.f4 + n % 4) (show (4 : Int) ≠ 0 by omega)
 have hm2 := Int.emod_lt_of_pos (d.f4 + n % 4) (show (0 : Int) < 4 by omega)
 unfold dOk pDevice at h
 change pDevice d.f0 d.f1 d.f2 (pTurn4 n (d.f3.f0, d.f3.f1)).1 (pTurn4 n (d.f3.f0, d.f3.f1)).2 (if d.f1 = 2 then (d.f4 + n % 4) % 4 else d.f4) d.f5 d.f6 = true
 unfold pDevice
 by_cases k1 : d.f1 = 1
 ·obtain ⟨e1, e2⟩ := h1 k1
  have : pTurn4 n (d.f3.f0, d.f3.f1) = (0, 0) := by rw [e1, e2]; exact rotN_zero _
  rw [this]
  simp only [e1, e2] at h
  simpa only [k1, if_neg (show ¬ (1 : Int) = 2 by omega)] using h
 ·by_cases k2 : d.f1 = 2
  ·rw [if_neg k1, if_pos k2] at h
   rw [if_neg k1, if_pos k2, if_pos k2]
   have hr := rotN_in 1024 (by omega) (n % 4).toNat _ (h2 k2).2
   simp only [pJet, Bool.and_eq_true, pHead_iff, i16_iff] at h ⊢
   obtain ⟨a1, a2, ⟨a3, a4, a5, a6⟩, a7⟩ := h
   exact ⟨a1, a2, ⟨hr.1, hr.2, ⟨hm1, by omega⟩, a6⟩, a7⟩
  ·rw [if_neg k1, if_neg k2] at h
   rw [if_neg k1, if_neg k2]
   by_cases k3 : d.f1 = 3
   ·rw [if_pos k3] at h
    rw [if_pos k3, if_neg k2]
    simp only [pPlace, Bool.and_eq_true, decide_eq_true_eq] at h ⊢
    have hr1 := hr.1
    have hr2 := hr.2
    unfold pTurn4
    exact ⟨h.1, h.2.1, ⟨⟨hr1, hr2⟩, h.2.2.2⟩⟩
   ·rw [if_neg k3] at h; simp at h
/-- TurnRig -/
def pTurnRig (l : List De) (n : Int) : List De := if pRig l = true then l.map (dTurn n) else []
theorem pTurnRig_len (l : List De) (n : Int) (hl : l.length < 1099511627776) : (pTurnRig l n).length < 1099511627776 := by
 unfold pTurnRig; split
 ·simpa using hl
 ·simp
theorem impl_TurnHeading_eq (h n : Int) (h0 : 0 ≤ h) (h3 : h ≤ 3) : impl_TurnHeading.f h n = some ((h + n % 4) % 4) := by
 have h1 := Int.emod_nonneg n (show (4 : Int) ≠ 0 by omega)
 have h2 := Int.emod_lt_of_pos n (show (0 : Int) < 4 by omega)
 simp only [impl_TurnHeading.f, impl_IsHeading_eq, Option.bind_some, (pHead_iff h).2 ⟨h0, h3⟩, if_true, impl_turns_eq]
 rw [show wrap64 (h + n % 4) = h + n % 4 by unfold wrap64; omega, Int.tmod_eq_emod_of_nonneg (by omega)]
theorem impl_TurnRig_l0 (l : List De) (n : Int) (hl : l.length < 1099511627776) (hk : ∀ d ∈ l, dOk d = true) : ∀ (suf pre : List De), l = pre ++ suf →
  Ev (fun k => impl_TurnRig.l0 k n (pre.map (dTurn n)) l (l.length : Int) (pre.length : Int)) (l.map (dTurn n)) := by
 intro suf
 induction suf with
 | nil =>
  intro pre h
  refine ev_succ ?_
  simp only [impl_TurnRig.l0, if_neg (ixn h)]
  simpa [h] using Ev.now (l.map (dTurn n))
 | cons a s ih =>
  intro pre h
  obtain ⟨h1, h2, h3, h4⟩ := ix h (by omega)
  have ha : a ∈ l := by rw [h]; simp
  obtain ⟨hb, p1, p2⟩ := dOk_place (hk a ha)
  have hlen : (pre.map (dTurn n)).length < 1759218604441 := by
   have : l.length = pre.length + (s.length + 1) := by rw [h]; simp
   rw [List.length_map]; omega
  have next := ih (pre ++ [a]) h4
  have hmap : (pre ++ [a]).map (dTurn n) = pre.map (dTurn n) ++ [dTurn n a] := by simp
  rw [hmap] at next
  refine ev_succ ?_
  simp only [impl_TurnRig.l0, if_pos h1, if_pos (nn _), Int.toNat_natCast, rd_T87, h2]
  refine Ev.bind (impl_turned_ev _ _ _) ?_
  refine ev_ite (fun k2 => ?_) (fun k2 => ?_)
  ·have hh := p2 k2
   simp only [impl_TurnHeading_eq a.f4 n hh.1.1 hh.1.2, Option.bind_some, if_pos hlen]
   rw [h3]
   have e : dTurn n a = ⟨a.f0, a.f1, a.f2, ⟨(pTurn4 n (a.f3.f0, a.f3.f1)).1, (pTurn4 n (a.f3.f0, a.f3.f1)).2⟩, (a.f4 + n % 4) % 4, a.f5, a.f6⟩ := by simp only [dTurn, if_pos k2]
   rw [e] at next
   exact next
  ·simp only [if_pos hlen]
   rw [h3]
   have e : dTurn n a = ⟨a.f0, a.f1, a.f2, ⟨(pTurn4 n (a.f3.f0, a.f3.f1)).1, (pTurn4 n (a.f3.f0, a.f3.f1)).2⟩, a.f4, a.f5, a.f6⟩ := by simp only [dTurn, if_neg k2]
   rw [e] at next
   exact next
theorem impl_TurnRig_ev (l : List De) (n : Int) (hl : l.length < 1099511627776) (hz : szD l) : Ev (fun k => impl_TurnRig.f k l n) (pTurnRig l n) := by
 simp only [impl_TurnRig.f, Option.bind_some, pTurnRig]
 refine Ev.bind (impl_IsRig_ev l hl hz) ?_
 refine ev_ite (fun c => ?_) (fun c => ?_)
 ·rw [if_pos c]; exact impl_TurnRig_l0 l n hl (pRig_dOk c) l [] rfl
 ·rw [if_neg c]; exact Ev.now _
def dPos (x : ByteArray) : List De → Nat
 | [] => 0
 | d :: t => if Op.bytesLess d.f0.toList x.toList = true then dPos x t + 1 else 0
theorem dPos_le (x : ByteArray) : ∀ l, dPos x l ≤ l.length
 | [] => Nat.le_refl _
 | d :: t => by
  unfold dPos
  split
  ·have := dPos_le x t; simp; omega
  ·omega
def sIns (c : De) : List De → List De
 | [] => [c]
 | d :: t => if Op.bytesLess c.f0.toList d.f0.toList = true then c :: d :: t else d :: sIns c t
theorem sIns_eq (c : De) : ∀ l : List De, (∀ d ∈ l, d.f0.toList ≠ c.f0.toList) → sIns c l = l.take (dPos c.f0 l) ++ [c] ++ l.drop (dPos c.f0 l)
 | [], _ => rfl
 | d :: t, h => by
  have hd := h d (by simp)
  have ih := sIns_eq c t (fun x hx => h x (by simp [hx]))
  unfold sIns dPos
  by_cases h1 : Op.bytesLess d.f0.toList c.f0.toList = true
  ·have h2 : ¬ Op.bytesLess c.f0.toList d.f0.toList = true := fun h2 => by
    have := bl_trans _ _ _ h1 h2
    rw [bl_irrefl] at this; cases this
   rw [if_neg h2, if_pos h1, ih]; simp
  ·have h2 : Op.bytesLess c.f0.toList d.f0.toList = true := by
    cases hb : Op.bytesLess c.f0.toList d.f0.toList
    ·exact absurd (bl_tri _ _ (Bool.eq_false_iff.2 h1) hb) hd
    ·rfl
   rw [if_pos h2, if_neg h1]; simp
theorem dIdx_ne (x : ByteArray) : ∀ (l : List De) (i : Int), 0 ≤ i → ¬ dIdx x l i ≥ 0 → ∀ d ∈ l, d.f0.toList ≠ x.toList
 | [], _, _, _, d, hd => by cases hd
 | a :: t, i, h0, h, d, hd => by
  rw [dIdx] at h
  by_cases c : a.f0.toList = x.toList
  ·rw [if_pos c] at h; exact absurd h0 h
  ·rw [if_neg c] at h
   cases hd with
   | head => exact c
   | tail _ hd => exact dIdx_ne x t (i + 1) (by omega) h d hd
/-- AddDevice -/
def pAddD (l : List De) (c : De) : List De × Bool :=
 if pRig l = true ∧ dOk c = true ∧ ¬ pFind l c.f0 ≥ 0 ∧ ¬ (l.length : Int) = 8 ∧ pHung l c = true then (l.take (dPos c.f0 l) ++ [c] ++ l.drop (dPos c.f0 l), true) else (l, false)
theorem spec_AddDevice_l1 (l : List De) (c : De) (hl : l.length < 1099511627776) : ∀ (suf pre out : List De), l = pre ++ suf → out.length ≤ pre.length + 1 →
  Ev (fun k => spec_AddDevice.l0 k out true l (l.length : Int) (pre.length : Int) c.f0 c.f1 c.f2 c.f3.f0 c.f3.f1 c.f4 c.f5 c.f6) (out ++ suf, true) := by
 intro suf
 induction suf with
 | nil =>
  intro pre out h ho
  refine ev_succ ?_
  simp only [spec_AddDevice.l0, if_neg (ixn h), if_true, List.append_nil]
  exact Ev.now _
 | cons a s ih =>
  intro pre out h ho
  obtain ⟨h1, h2, h3, h4⟩ := ix h (by omega)
  have hll : l.length = pre.length + (s.length + 1) := by rw [h]; simp
  refine ev_succ ?_
  simp only [spec_AddDevice.l0, if_pos h1, if_pos (nn _), Int.toNat_natCast, rd_T87, h2, h3, if_true, if_pos (show out.length < 1759218604441 by omega)]
  have := ih (pre ++ [a]) (out ++ [a]) h4 (by simp; omega)
  simpa using this
theorem spec_AddDevice_l0 (l : List De) (c : De) (hl : l.length < 1099511627776) : ∀ (suf pre : List De), l = pre ++ suf →
  Ev (fun k => spec_AddDevice.l0 k pre false l (l.length : Int) (pre.length : Int) c.f0 c.f1 c.f2 c.f3.f0 c.f3.f1 c.f4 c.f5 c.f6) (pre ++ sIns c suf, true) := by
 intro suf
 induction suf with
 | nil =>
  intro pre h
  have hll : l.length = pre.length := by rw [h]; simp
  refine ev_succ ?_
  simp only [spec_AddDevice.l0, if_neg (ixn h), Bool.false_eq_true, if_false, if_pos (show pre.length < 1759218604441 by omega), sIns]
  exact Ev.now _
 | cons a s ih =>
  intro pre h
  obtain ⟨h1, h2, h3, h4⟩ := ix h (by omega)
  have hll : l.length = pre.length + (s.length + 1) := by rw [h]; simp
  refine ev_succ ?_
  simp only [spec_AddDevice.l0, if_pos h1, if_pos (nn _), Int.toNat_natCast, rd_T87, h2, h3, Bool.false_eq_true, if_false, if_pos (show pre.length < 1759218604441 by omega), Option.bind_some]
  rw [sIns]
  refine ev_ite (fun d => ?_) (fun d => ?_)
  ·rw [if_pos d]
   simp only [List.length_append, List.length_singleton, if_pos (show pre.length + 1 < 1759218604441 by omega)]
   have := spec_AddDevice_l1 l c hl s (pre ++ [a]) (pre ++ [c] ++ [a]) h4 (by simp)
   simpa using this
  ·rw [if_neg d]
   have := ih (pre ++ [a]) h4
   simpa using this
theorem spec_AddDevice_ev (l : List De) (c : De) (hl : l.length < 1099511627776) (hz : szD l) (hc : c.f0.size ≤ 9223372036854775807 ∧ c.f2.size ≤ 9223372036854775807) : Ev (fun k => spec_AddDevice.f k l c.f0 c.f1 c.f2 c.f3.f0 c.f3.f1 c.f4 c.f5 c.f6) (pAddD l c) := by
 have j1 : Ev (fun k => spec_AddDevice.j0 k l true c.f0 c.f1 c.f2 c.f3.f0 c.f3.f1 c.f4 c.f5 c.f6) (l, false) := by
  refine ev_succ ?_
  simp only [spec_AddDevice.j0, if_true, spec_l6Copies_eq l hl, Option.bind_some]; exact Ev.now _
 unfold spec_AddDevice.f pAddD
 refine Ev.bind (spec_IsRig_ev l hl hz) ?_
 refine ev_ite (fun h1 => ?_) (fun h1 => ?_)
 ·refine Ev.bind (spec_IsDevice_ev _ _ _ _ _ _ _ _ hc.1 hc.2) ?_
  change Ev (fun k => if dOk c = true then _ else _) _
  refine ev_ite (fun h2 => ?_) (fun h2 => ?_)
  ·refine Ev.bind (spec_FindDevice_ev l c.f0 hl) ?_
   refine ev_ite (fun h3 => ?_) (fun h3 => ?_)
   ·rw [if_neg (fun x => x.2.2.1 h3)]; exact j1
   ·refine ev_ite (fun h4 => ?_) (fun h4 => ?_)
    ·rw [if_neg (fun x => x.2.2.2.1 h4)]; exact j1
    ·refine Ev.bind (spec_l6Hangs_ev l c hl h2) ?_
     by_cases h5 : pHung l c = true
     ·rw [if_pos ⟨h1, h2, h3, h4, h5⟩, h5]
      refine ev_succ ?_
      simp only [spec_AddDevice.j0, Bool.not_true, Bool.false_eq_true, if_false]
      have := spec_AddDevice_l0 l c hl l [] rfl
      rw [sIns_eq c l (dIdx_ne c.f0 l 0 (by omega) h3)] at this
      simpa using this
     ·rw [if_neg (fun x => h5 x.2.2.2.2), Bool.eq_false_iff.2 h5]; exact j1
  ·rw [if_neg (fun x => h2 x.2.1)]; exact j1
 ·rw [if_neg (fun x => h1 x.1)]; exact j1
/-- A device moved by (x, y). -/
def dShift (x y : Int) (d : De) : De := if d.f1 = 1 then d else ⟨d.f0, d.f1, d.f2, ⟨d.f3.f0 + x, d.f3.f1 + y⟩, d.f4, d.f5, d.f6⟩
/-- ShiftRig -/
def pShift (l : List De) (x y : Int) : List De × Bool :=
 if pRig l = true then (if pPlace x y = true then (if l.all (fun d => dOk (dShift x y d)) = true then (l.map (dShift x y), true) else ([], false)) else ([], false)) else ([], false)
theorem pPlace_iff (x y : Int) : pPlace x y = true ↔ (-4096 ≤ x ∧ x ≤ 4096) ∧ (-4096 ≤ y ∧ y ≤ 4096) := by
 simp only [pPlace, Bool.and_eq_true, decide_eq_true_eq]
theorem pShift_len (l : List De) (x y : Int) (hl : l.length < 1099511627776) : (pShift l x y).1.length < 1099511627776 := by
 unfold pShift
 split
 ·split
  ·split
   ·simpa using hl
   ·simp
  ·simp
 ·simp
theorem impl_AddPlaces_eq (a b x y : Int) (h : pPlace a b = true) (h' : pPlace x y = true) : impl_AddPlaces.f a b x y = some (if pPlace (a + x) (b + y) = true then (a + x, b + y, true) else (0, 0, false)) := by
 obtain ⟨⟨b1, b2⟩, b3, b4⟩ := (pPlace_iff a b).1 h
 obtain ⟨⟨c1, c2⟩, c3, c4⟩ := (pPlace_iff x y).1 h'
 have w1 : wrap64 (a + x) = a + x := by unfold wrap64; omega
 have w2 : wrap64 (b + y) = b + y := by unfold wrap64; omega
 simp only [impl_AddPlaces.f, impl_checked.f, impl_IsPlace_eq, Option.bind_some, h, h', if_true, w1, w2]
 by_cases c : pPlace (a + x) (b + y) = true
 ·simp only [if_pos c, Option.bind_some]
 ·simp only [if_neg c, Option.bind_some]
theorem impl_ShiftRig_l0 (l : List De) (x y : Int) (hl : l.length < 1099511627776) (hz : szD l) (hk : ∀ d ∈ l, dOk d = true) (hxy : pPlace x y = true) : ∀ (suf pre : List De), l = pre ++ suf →
  Ev (fun k => impl_ShiftRig.l0 k (pre.map (dShift x y) ++ suf) (l.length : Int) (pre.length : Int) x y) (if suf.all (fun d => dOk (dShift x y d)) = true then (l.map (dShift x y), true) else ([], false)) := by
 intro suf
 induction suf with
 | nil =>
  intro pre h
  refine ev_succ ?_
  simp only [impl_ShiftRig.l0, if_neg (ixn h), List.all_nil, if_true, List.append_nil]
  simpa [h] using Ev.now (l.map (dShift x y), true)
 | cons a s ih =>
  intro pre h
  have hll : l.length = pre.length + (s.length + 1) := by rw [h]; simp
  obtain ⟨h1, _, h3, h4⟩ := ix h (by omega)
  have hpl : (pre.map (dShift x y)).length = pre.length := List.length_map ..
  have hX : ∀ b : De, ((pre.map (dShift x y) ++ b :: s).length : Int) = (l.length : Int) := fun b => by simp; omega
  have g2 : ∀ b d : De, (pre.map (dShift x y) ++ b :: s).getD pre.length d = b := fun b d => by
   obtain ⟨_, q, _, _⟩ := ix (l := pre.map (dShift x y) ++ b :: s) rfl (by have := hX b; omega)
   rw [hpl] at q; exact q d
  have hset : ∀ b : De, (pre.map (dShift x y) ++ a :: s).set pre.length b = pre.map (dShift x y) ++ b :: s := fun b => by
   have := set_app (pre.map (dShift x y)) s a b
   rwa [hpl] at this
  have ha : a ∈ l := by rw [h]; simp
  have hd := hk a ha
  obtain ⟨hb, p1, p2⟩ := dOk_place hd
  have hn : a.f0.size ≤ 9223372036854775807 ∧ a.f2.size ≤ 9223372036854775807 := hz a ha
  have next := ih (pre ++ [a]) h4
  have hmap : (pre ++ [a]).map (dShift x y) ++ s = pre.map (dShift x y) ++ dShift x y a :: s := by simp
  rw [hmap] at next
  refine ev_succ ?_
  simp only [impl_ShiftRig.l0, if_pos h1, if_pos (nn _), Int.toNat_natCast, rd_T87, g2, hX]
  rw [List.all_cons]
  refine ev_ite (fun k1 => ?_) (fun k1 => ?_)
  ·have e : dShift x y a = a := by unfold dShift; rw [if_pos k1]
   rw [e] at next ⊢
   rw [hd, Bool.true_and, h3]
   exact next
  ·have e : dShift x y a = ⟨a.f0, a.f1, a.f2, ⟨a.f3.f0 + x, a.f3.f1 + y⟩, a.f4, a.f5, a.f6⟩ := by unfold dShift; rw [if_neg k1]
   rw [impl_AddPlaces_eq _ _ _ _ ((pPlace_iff _ _).2 hb) hxy]
   simp only [Option.bind_some, hset, g2]
   by_cases c : pPlace (a.f3.f0 + x) (a.f3.f1 + y) = true
   ·simp only [if_pos c, if_true]
    refine Ev.bind (impl_IsDevice_ev _ _ _ _ _ _ _ _ hn.1 hn.2) ?_
    have e2 : pDevice a.f0 a.f1 a.f2 (a.f3.f0 + x) (a.f3.f1 + y) a.f4 a.f5 a.f6 = dOk (dShift x y a) := by rw [e]; rfl
    rw [e2]
    refine ev_ite (fun c2 => ?_) (fun c2 => ?_)
    ·rw [c2, Bool.true_and, h3]
     rw [e] at next
     exact next
    ·rw [Bool.eq_false_iff.2 c2, Bool.false_and]; exact Ev.now _
   ·have c2 : dOk (dShift x y a) = false := by
     cases hq : dOk (dShift x y a)
     ·rfl
     ·have q := (dOk_place hq).1
      rw [e] at q
      exact absurd ((pPlace_iff _ _).2 q) c
    simp only [if_neg c, Bool.false_eq_true, if_false, c2, Bool.false_and]
    exact Ev.now _
theorem impl_ShiftRig_ev (l : List De) (x y : Int) (hl : l.length < 1099511627776) (hz : szD l) : Ev (fun k => impl_ShiftRig.f k l x y) (pShift l x y) := by
 have j1 : Ev (fun k => impl_ShiftRig.j0 k l true x y) ([], false) := by
  refine ev_succ ?_
  simp only [impl_ShiftRig.j0, if_true]; exact Ev.now _
 simp only [impl_ShiftRig.f, impl_IsPlace_eq, Option.bind_some, pShift]
 refine Ev.bind (impl_IsRig_ev l hl hz) ?_
 refine ev_ite (fun c => ?_) (fun c => ?_)
 ·rw [if_pos c]
  by_cases c2 : pPlace x y = true
  ·rw [if_pos c2, c2]
   refine ev_succ ?_
   simp only [impl_ShiftRig.j0, Bool.not_true, Bool.false_eq_true, if_false, impl_CloneD_eq l hl, Option.bind_some]
   exact impl_ShiftRig_l0 l x y hl hz (pRig_dOk c) c2 l [] rfl
  ·rw [if_neg c2, Bool.eq_false_iff.2 c2]; exact j1
 ·rw [if_neg c]; exact j1
def dLt (a b : De) : Prop := Op.bytesLess a.f0.toList b.f0.toList = true
theorem gRest_iff (L : List De) : ∀ (t : List De) (p : De), gRest L p t = true ↔ (∀ d ∈ t, dOk d = true) ∧ (∀ d ∈ t, pHung L d = true) ∧ (∀ d ∈ t, dLt p d) ∧ t.Pairwise dLt
 | [], p => by simp [gRest]
 | q :: t, p => by
  simp only [gRest, Bool.and_eq_true, gRest_iff L t q, List.forall_mem_cons, List.pairwise_cons]
  constructor
  ·rintro ⟨h1, h2, h3, h4, h5, h6, h7⟩
   exact ⟨⟨h1, h4⟩, ⟨h3, h5⟩, ⟨h2, fun d hd => bl_trans _ _ _ h2 (h6 d hd)⟩, h6, h7⟩
  ·rintro ⟨⟨h1, h4⟩, ⟨h3, h5⟩, ⟨h2, _⟩, h6, h7⟩
   exact ⟨h1, h2, h3, h4, h5, h6, h7⟩
theorem pRig_iff (l : List De) : pRig l = true ↔ (∀ d ∈ l, dOk d = true) ∧ (∀ d ∈ l, pHung l d = true) ∧ l.Pairwise dLt ∧ l.length ≤ 8 := by
 have h : ∀ m : List De, gAll l m = true ↔ (∀ d ∈ m, dOk d = true) ∧ (∀ d ∈ m, pHung l d = true) ∧ m.Pairwise dLt := by
  intro m
  cases m with
  | nil => simp [gAll]
  | cons q t =>
   simp only [gAll, Bool.and_eq_true, gRest_iff, List.forall_mem_cons, List.pairwise_cons]
   constructor
   ·rintro ⟨h1, h2, h3, h4, h5, h6⟩
    exact ⟨⟨h1, h3⟩, ⟨h2, h4⟩, h5, h6⟩
   ·rintro ⟨⟨h1, h3⟩, ⟨h2, h4⟩, h5, h6⟩
    exact ⟨h1, h2, h3, h4, h5, h6⟩
 simp only [pRig, Bool.and_eq_true, h, decide_eq_true_eq]
 constructor
 ·rintro ⟨⟨a, b, c⟩, d⟩; exact ⟨a, b, c, by omega⟩
 ·rintro ⟨a, b, c, d⟩; exact ⟨⟨a, b, c⟩, by omega⟩
theorem dLt_irr (a : De) : ¬ dLt a a := by unfold dLt; rw [bl_irrefl]; decide
/-- One name, one device. -/
theorem name_uniq {l : List De} (hp : l.Pairwise dLt) {a b : De} (ha : a ∈ l) (hb : b ∈ l) (h : a.f0.toList = b.f0.toList) : a = b := by
 induction l with
 | nil => cases ha
 | cons q t ih =>
  obtain ⟨h1, h2⟩ := List.pairwise_cons.1 hp
  rcases List.mem_cons.1 ha with rfl | ha' <;> rcases List.mem_cons.1 hb with rfl | hb'
  ·rfl
  ·have := h1 b hb'; unfold dLt at this; rw [h, bl_irrefl] at this; cases this
  ·have := h1 a ha'; unfold dLt at this; rw [h, bl_irrefl] at this; cases this
  ·exact ih h2 ha' hb'
theorem dIdx_mid (x : ByteArray) (c : De) (B : List De) (hc : c.f0.toList = x.toList) : ∀ (A : List De) (i : Int), (∀ d ∈ A, d.f0.toList ≠ x.toList) → dIdx x (A ++ c :: B) i = i + A.length
 | [], i, _ => by simp [dIdx, hc]
 | a :: A, i, h => by
  rw [List.cons_append, dIdx, if_neg (h a (by simp)), dIdx_mid x c B hc A (i + 1) (fun d hd => h d (by simp [hd]))]
  simp; omega
theorem dIdx_spec (x : ByteArray) : ∀ (l : List De), (∀ d ∈ l, d.f0.toList ≠ x.toList) ∨ ∃ A c B, l = A ++ c :: B ∧ c.f0.toList = x.toList ∧ ∀ d ∈ A, d.f0.toList ≠ x.toList
 | [] => .inl (fun d hd => by cases hd)
 | a :: t => by
  by_cases c : a.f0.toList = x.toList
  ·exact .inr ⟨[], a, t, rfl, c, fun d hd => by cases hd⟩
  ·rcases dIdx_spec x t with h | ⟨A, d, B, e, h1, h2⟩
   ·refine .inl (fun d hd => ?_)
    rcases List.mem_cons.1 hd with rfl | hd
    ·exact c
    ·exact h d hd
   ·refine .inr ⟨a :: A, d, B, by rw [e]; rfl, h1, fun y hy => ?_⟩
    rcases List.mem_cons.1 hy with rfl | hy
    ·exact c
    ·exact h2 y hy
theorem dIdx_none (x : ByteArray) : ∀ (l : List De) (i : Int), (∀ d ∈ l, d.f0.toList ≠ x.toList) → dIdx x l i = -1
 | [], _, _ => rfl
 | a :: t, i, h => by rw [dIdx, if_neg (h a (by simp)), dIdx_none x t _ (fun d hd => h d (by simp [hd]))]
theorem pFind_at {A B : List De} {c : De} {x : ByteArray} (hc : c.f0.toList = x.toList) (h : ∀ d ∈ A, d.f0.toList ≠ x.toList) : pFind (A ++ c :: B) x = (A.length : Int) := by
 unfold pFind; rw [dIdx_mid x c B hc A 0 h]; omega
theorem pFind_none {l : List De} {x : ByteArray} (h : ∀ d ∈ l, d.f0.toList ≠ x.toList) : pFind l x = -1 := dIdx_none x l 0 h
theorem pFind_nonneg {l : List De} {x : ByteArray} : 0 ≤ pFind l x ↔ ∃ d ∈ l, d.f0.toList = x.toList := by
 rcases dIdx_spec x l with h | ⟨A, c, B, e, h1, h2⟩
 ·rw [pFind_none h]
  exact ⟨fun h0 => by omega, fun ⟨d, hd, e⟩ => absurd e (h d hd)⟩
 ·rw [e, pFind_at h1 h2]
  exact ⟨fun _ => ⟨c, by simp, h1⟩, fun _ => by omega⟩
theorem pHung_iff {l : List De} (hp : l.Pairwise dLt) (d : De) : pHung l d = true ↔ d.f1 = 1 ∨ ∃ e ∈ l, e.f0.toList = d.f2.toList ∧ e.f1 = d.f1 - 1 := by
 unfold pHung
 by_cases h1 : d.f1 = 1
 ·rw [if_pos h1]; exact ⟨fun _ => .inl h1, fun _ => rfl⟩
 ·rw [if_neg h1]
  rcases dIdx_spec d.f2 l with h | ⟨A, c, B, e, hc, hA⟩
  ·rw [pFind_none h, if_neg (by omega)]
   constructor
   ·intro x; cases x
   ·rintro (x | ⟨y, hy, e, _⟩)
    ·exact absurd x h1
    ·exact absurd e (h y hy)
  ·subst e
   rw [pFind_at hc hA, if_pos (by omega), Int.toNat_natCast]
   have hg : (A ++ c :: B).getD A.length z87 = c := by simp [List.getD]
   rw [hg, beq_iff_eq]
   constructor
   ·intro x; exact .inr ⟨c, by simp, hc, x⟩
   ·rintro (x | ⟨y, hy, e, e2⟩)
    ·exact absurd x h1
    ·have : y = c := name_uniq hp hy (by simp) (e.trans hc.symm)
     rw [← this]; exact e2
theorem dPos_split (c : De) : ∀ (l : List De), l.Pairwise dLt → (∀ d ∈ l, d.f0.toList ≠ c.f0.toList) → (∀ d ∈ l.take (dPos c.f0 l), dLt d c) ∧ ∀ d ∈ l.drop (dPos c.f0 l), dLt c d
 | [], _, _ => ⟨fun d hd => by simp at hd, fun d hd => by simp at hd⟩
 | a :: t, hp, hn => by
  obtain ⟨h1, h2⟩ := List.pairwise_cons.1 hp
  unfold dPos
  by_cases h : Op.bytesLess a.f0.toList c.f0.toList = true
  ·rw [if_pos h]
   obtain ⟨g1, g2⟩ := dPos_split c t h2 (fun d hd => hn d (by simp [hd]))
   refine ⟨fun d hd => ?_, fun d hd => g2 d (by simpa using hd)⟩
   rw [List.take_succ_cons] at hd
   rcases List.mem_cons.1 hd with rfl | hd
   ·exact h
   ·exact g1 d hd
  ·rw [if_neg h]
   refine ⟨fun d hd => by simp at hd, fun d hd => ?_⟩
   have hca : dLt c a := by
    unfold dLt
    cases hb : Op.bytesLess c.f0.toList a.f0.toList
    ·exact absurd (bl_tri _ _ (Bool.eq_false_iff.2 h) hb) (hn a (by simp))
    ·rfl
   rcases List.mem_cons.1 (by simpa using hd) with rfl | hd
   ·exact hca
   ·exact bl_trans _ _ _ hca (h1 d hd)
/-- What AddDevice makes of a rig is a rig. -/
theorem pAddD_rig {l : List De} (h : pRig l = true) (c : De) : pRig (pAddD l c).1 = true := by
 unfold pAddD
 split
 ·rename_i hc
  obtain ⟨_, hok, hf, h8, hh⟩ := hc
  obtain ⟨a1, a2, a3, a4⟩ := (pRig_iff l).1 h
  have hn : ∀ d ∈ l, d.f0.toList ≠ c.f0.toList := fun d hd e => hf (pFind_nonneg.2 ⟨d, hd, e⟩)
  obtain ⟨g1, g2⟩ := dPos_split c l a3 hn
  have hmem : ∀ x, x ∈ l.take (dPos c.f0 l) ++ [c] ++ l.drop (dPos c.f0 l) ↔ x = c ∨ x ∈ l := fun x => by
   have : x ∈ l ↔ x ∈ l.take (dPos c.f0 l) ∨ x ∈ l.drop (dPos c.f0 l) := by
    rw [← List.mem_append, List.take_append_drop]
   rw [this]
   simp only [List.mem_append, List.mem_singleton]
   constructor
   ·rintro ((x | x) | x)
    ·exact .inr (.inl x)
    ·exact .inl x
    ·exact .inr (.inr x)
   ·rintro (x | x | x)
    ·exact .inl (.inr x)
    ·exact .inl (.inl x)
    ·exact .inr x
  have hlen : (l.take (dPos c.f0 l) ++ [c] ++ l.drop (dPos c.f0 l)).length = l.length + 1 := by
   have := dPos_le c.f0 l
   simp only [List.length_append, List.length_take, List.length_drop, List.length_singleton]; omega
  have hpw : (l.take (dPos c.f0 l) ++ [c] ++ l.drop (dPos c.f0 l)).Pairwise dLt := by
   rw [List.append_assoc, List.pairwise_append]
   refine ⟨a3.sublist (List.take_sublist _ _), ?_, ?_⟩
   ·rw [List.singleton_append, List.pairwise_cons]
    exact ⟨g2, a3.sublist (List.drop_sublist _ _)⟩
   ·intro x hx y hy
    rcases List.mem_append.1 hy with hy | hy
    ·rw [List.mem_singleton.1 hy]; exact g1 x hx
    ·exact bl_trans _ _ _ (g1 x hx) (g2 y hy)
  refine (pRig_iff _).2 ⟨fun d hd => ?_, fun d hd => ?_, hpw, ?_⟩
  ·rcases (hmem d).1 hd with rfl | hd
   ·exact hok
   ·exact a1 d hd
  ·have hl : pHung l d = true := by
    rcases (hmem d).1 hd with rfl | hd
    ·exact hh
    ·exact a2 d hd
   rcases (pHung_iff a3 d).1 hl with x | ⟨e, he, e1, e2⟩
   ·exact (pHung_iff hpw d).2 (.inl x)
   ·exact (pHung_iff hpw d).2 (.inr ⟨e, (hmem e).2 (.inr he), e1, e2⟩)
  ·show (l.take (dPos c.f0 l) ++ [c] ++ l.drop (dPos c.f0 l)).length ≤ 8
   rw [hlen]; omega
 ·exact h
theorem pName_size {a : ByteArray} (h : pName a = true) : 0 < a.size ∧ a.size ≤ 8 := by
 have key : ∀ (d i : Nat), i + d = a.size → nmR a d i = true → 0 < a.size ∧ a.size ≤ 8 := by
  intro d
  induction d with
  | zero => intro i hi h; simp only [nmR, Bool.and_eq_true, decide_eq_true_eq] at h; omega
  | succ d ih =>
   intro i hi h
   simp only [nmR, Bool.and_eq_true] at h
   exact ih (i + 1) (by omega) h.2
 exact key a.size 0 (by omega) h
theorem toList_nil_size {a : ByteArray} (h : a.toList = []) : a.size = 0 := by
 have e : a.toList.length = a.size := by rw [ByteArray.toList_eq, Array.length_toList]; rfl
 rw [h] at e; simpa using e.symm
theorem dOk_names {d : De} (h : dOk d = true) : (0 < d.f0.size ∧ d.f0.size ≤ 8) ∧ (d.f1 = 1 → d.f2.toList = []) ∧ (d.f1 ≠ 1 → (d.f2.toList ≠ d.f0.toList) ∧ d.f2.size ≤ 8) := by
 unfold dOk pDevice at h
 simp only [Bool.and_eq_true] at h
 obtain ⟨h0, h⟩ := h
 refine ⟨pName_size h0, fun k => ?_, fun k => ?_⟩
 ·rw [if_pos k] at h
  simp only [Bool.and_eq_true, beq_iff_eq] at h
  exact h.2.1
 ·rw [if_neg k] at h
  have hl : pLineOk d.f0 d.f2 = true := by
   split at h
   ·simp only [Bool.and_eq_true] at h; exact h.1
   ·split at h
    ·simp only [Bool.and_eq_true] at h; exact h.1
    ·cases h
  simp only [pLineOk, Bool.and_eq_true, Bool.not_eq_true', beq_eq_false_iff_ne] at hl
  exact ⟨hl.2, (pName_size hl.1).2⟩
theorem pRig_sz {l : List De} (h : pRig l = true) : szD l := fun c hc => by
 obtain ⟨h1, h2, h3⟩ := dOk_names (((pRig_iff l).1 h).1 c hc)
 refine ⟨by omega, ?_⟩
 by_cases k : c.f1 = 1
 ·have := toList_nil_size (h2 k); omega
 ·have := (h3 k).2; omega
theorem l2Draw_ok (b : List Int) (i h : Int) (hb : b.length < 1099511627776) (hi : 0 ≤ i) : ∃ x y i' h', spec_l2Draw.f b i h = some (x, y, i', h') ∧ 0 ≤ i' := by
 obtain ⟨x, i1, h1, e1, hi1, _⟩ := l1Some_ok b i h (-64) 64 hb hi (by omega) (by omega) (by omega)
 obtain ⟨y, i2, h2, e2, hi2, _⟩ := l1Some_ok b i1 h1 (-64) 64 hb hi1 (by omega) (by omega) (by omega)
 exact ⟨x, y, i2, h2, by simp only [spec_l2Draw.f, e1, e2, Option.bind_some], hi2⟩
theorem l3Draw_ok (b : List Int) (i h : Int) (hb : b.length < 1099511627776) (hi : 0 ≤ i) : ∃ x y hd t lf i' h', spec_l3Draw.f b i h = some (x, y, hd, t, lf, i', h') ∧ 0 ≤ i' := by
 obtain ⟨x, y, i1, h1, e1, hi1⟩ := l2Draw_ok b i h hb hi
 obtain ⟨hd, i2, h2, e2, hi2, _⟩ := l1Below_ok b i1 h1 4 hb hi1
 obtain ⟨t, i3, h3, e3, hi3, _⟩ := l1Below_ok b i2 h2 17 hb hi2
 obtain ⟨lf, i4, h4, e4, hi4, _⟩ := l1Some_ok b i3 h3 1 32 hb hi3 (by omega) (by omega) (by omega)
 exact ⟨x, y, hd, t, lf, i4, h4, by simp only [spec_l3Draw.f, e1, e2, e3, e4, Option.bind_some], hi4⟩
theorem l6Nozzle_ok (b : List Int) (i h : Int) (n l : ByteArray) (hb : b.length < 1099511627776) (hi : 0 ≤ i) : ∃ x y hd t m i' h', spec_l6Nozzle.f b i h n l = some (n, 2, l, x, y, hd, t, m, i', h') ∧ 0 ≤ i' := by
 obtain ⟨x, y, hd, t, lf, i1, h1, e1, hi1⟩ := l3Draw_ok b i h hb hi
 obtain ⟨m, i2, h2, e2, hi2, _⟩ := l1Some_ok b i1 h1 0 32 hb hi1 (by omega) (by omega) (by omega)
 exact ⟨x, y, hd, t, m, i2, h2, by simp only [spec_l6Nozzle.f, e1, e2, Option.bind_some], hi2⟩
theorem l6Name_ok (b : List Int) (i h : Int) (hb : b.length < 1099511627776) (hi : 0 ≤ i) : ∃ r i' h', spec_l6Name.f b i h = some (r, i', h') ∧ 0 ≤ i' ∧ r.size ≤ 1000 := by
 have key : ∀ L : List ByteArray, L ≠ [] → (∀ x ∈ L, x.size ≤ 1000) → ∃ r i' h', ((spec_l1Str.f b i h L).bind fun bt => some (bt.1, bt.2.1, bt.2.2)) = some (r, i', h') ∧ 0 ≤ i' ∧ r.size ≤ 1000 := by
  intro L h1 h2
  obtain ⟨r, i', h', e, hi', hr⟩ := l1Str_ok b i h L hb hi h1
  exact ⟨r, i', h', by rw [e]; rfl, hi', h2 r hr⟩
 exact key _ (by simp) (by decide)
/-- A rig that holds a device. -/
def gRig (l : List De) : Prop := pRig l = true ∧ l ≠ []
theorem pAddD_ge {l : List De} (c : De) (h : l ≠ []) : (pAddD l c).1 ≠ [] := by
 unfold pAddD
 split
 ·simp
 ·exact h
theorem pAddD_pump {l : List De} {c : De} (h : pRig l = true) (hc : dOk c = true) (h1 : c.f1 = 1) : (pAddD l c).1 ≠ [] := by
 unfold pAddD
 split
 ·simp
 ·rename_i hn
  intro e
  replace e : l = [] := e
  subst e
  exact hn ⟨h, hc, by rw [pFind_none (fun d hd => by cases hd)]; omega, by simp, by unfold pHung; rw [if_pos h1]⟩
theorem l6Draw_add (k0 : List De) (c : De) (h : pRig k0 = true) (hc : c.f0.size ≤ 9223372036854775807 ∧ c.f2.size ≤ 9223372036854775807) : Ev (fun k => spec_AddDevice.f k k0 c.f0 c.f1 c.f2 c.f3.f0 c.f3.f1 c.f4 c.f5 c.f6) (pAddD k0 c) :=
 spec_AddDevice_ev k0 c (by have := pRig_len h; omega) (pRig_sz h) hc
theorem l6Draw_j2 (b : List Int) (hb : b.length < 1099511627776) (l : List De) (ns : List ByteArray) (c : Bool) (i h : Int) (hi : 0 ≤ i) (hl : gRig l) (hn : c = true → ns ≠ []) (hs : ∀ x ∈ ns, x.size ≤ 1000) :
  ∃ r i' h', Ev (fun k => spec_l6Draw.j2 k l ns c b i h) (r, i', h') ∧ 0 ≤ i' ∧ gRig r := by
 cases c with
 | false => exact ⟨l, i, h, ev_succ (by simp only [spec_l6Draw.j2, Bool.false_eq_true, if_false]; exact Ev.now _), hi, hl⟩
 | true =>
  have key : ∀ L : List ByteArray, L ≠ [] → (∀ x ∈ L, x.size ≤ 1000) → ∃ r i' h', Ev (fun k => (spec_l1Str.f b i h L).bind fun bt359 => ((spec_l1Str.f b bt359.2.1 bt359.2.2 ns).bind fun bt362 => ((spec_l2Draw.f b bt362.2.1 bt362.2.2).bind fun bt365 => ((spec_AddDevice.f k l bt359.1 3 bt362.1 bt365.1 bt365.2.1 0 0 0).bind fun bt369 => (some (bt369.1, bt365.2.2.1, bt365.2.2.2)))))) (r, i', h') ∧ 0 ≤ i' ∧ gRig r := by
   intro L hL hL2
   obtain ⟨n, i1, h1, e1, hi1, hn1⟩ := l1Str_ok b i h L hb hi hL
   obtain ⟨m, i2, h2, e2, hi2, hm2⟩ := l1Str_ok b i1 h1 ns hb hi1 (hn rfl)
   obtain ⟨x, y, i3, h3, e3, hi3⟩ := l2Draw_ok b i2 h2 hb hi2
   have eq := l6Draw_add l ⟨n, 3, m, ⟨x, y⟩, 0, 0, 0⟩ hl.1 ⟨by have := hL2 n hn1; show n.size ≤ _; omega, by have := hs m hm2; show m.size ≤ _; omega⟩
   refine ⟨_, i3, h3, ?_, hi3, pAddD_rig hl.1 ⟨n, 3, m, ⟨x, y⟩, 0, 0, 0⟩, pAddD_ge _ hl.2⟩
   simp only [e1, e2, e3, Option.bind_some]
   refine Ev.bind eq ?_
   exact Ev.now _
  obtain ⟨r, i', h', e, x⟩ := key [(⟨#[108, 97, 109, 112]⟩ : ByteArray), (⟨#[122]⟩ : ByteArray)] (by simp) (by decide)
  exact ⟨r, i', h', ev_succ (by simp only [spec_l6Draw.j2, if_true]; exact e), x⟩
theorem l6Draw_l1 (b : List Int) (hb : b.length < 1099511627776) (ps ns : List ByteArray) (hp : ps ≠ []) (hps : ∀ x ∈ ps, x.size ≤ 1000) (hns : ∀ x ∈ ns, x.size ≤ 1000) (hnl : ns.length < 1000) : ∀ (suf pre : List ByteArray) (l : List De) (i h : Int), ns = pre ++ suf → 0 ≤ i → gRig l →
  ∃ r i' h', Ev (fun k => spec_l6Draw.l1 k l ps ns ns (ns.length : Int) (pre.length : Int) b i h) (r, i', h') ∧ 0 ≤ i' ∧ gRig r := by
 intro suf
 induction suf with
 | nil =>
  intro pre l i h hd hi hl
  by_cases c : (ns.length : Int) > 0
  ·obtain ⟨o, i1, h1, e1, hi1⟩ := l1Once_ok b i h 2 hb hi
   obtain ⟨r, i', h', e, x⟩ := l6Draw_j2 b hb l ns o i1 h1 hi1 hl (fun _ e => by rw [e] at c; simp at c) hns
   refine ⟨r, i', h', ev_succ ?_, x⟩
   simp only [spec_l6Draw.l1, if_neg (ixn hd), if_pos c, e1, Option.bind_some]
   exact e
  ·obtain ⟨r, i', h', e, x⟩ := l6Draw_j2 b hb l ns false i h hi hl (fun e => by cases e) hns
   refine ⟨r, i', h', ev_succ ?_, x⟩
   simp only [spec_l6Draw.l1, if_neg (ixn hd), if_neg c]
   exact e
 | cons a s ih =>
  intro pre l i h hd hi hl
  obtain ⟨g1, g2, g3, g4⟩ := ix hd (by omega)
  obtain ⟨p, i1, h1, e1, hi1, hp1⟩ := l1Str_ok b i h ps hb hi hp
  obtain ⟨x, y, hdg, t, m, i2, h2, e2, hi2⟩ := l6Nozzle_ok b i1 h1 a p hb hi1
  have eq := l6Draw_add l ⟨a, 2, p, ⟨x, y⟩, hdg, t, m⟩ hl.1 ⟨by have := hns a (by rw [hd]; simp); show a.size ≤ _; omega, by have := hps p hp1; show p.size ≤ _; omega⟩
  obtain ⟨r, i', h', e, z⟩ := ih (pre ++ [a]) (pAddD l ⟨a, 2, p, ⟨x, y⟩, hdg, t, m⟩).1 i2 h2 g4 hi2 ⟨pAddD_rig hl.1 _, pAddD_ge _ hl.2⟩
  refine ⟨r, i', h', ev_succ ?_, z⟩
  simp only [spec_l6Draw.l1, if_pos g1, if_pos (nn _), rdOf, Int.toNat_natCast, g2, g3, e1, e2, Option.bind_some]
  refine Ev.bind eq ?_
  exact e
theorem l6Draw_l0 (b : List Int) (hb : b.length < 1099511627776) (ps : List ByteArray) (hp : ps ≠ []) (hps : ∀ x ∈ ps, pName x = true) (hpl : ps.length < 1000) : ∀ (suf pre : List ByteArray) (l : List De) (i h : Int), ps = pre ++ suf → 0 ≤ i → pRig l = true → (pre ≠ [] → l ≠ []) →
  ∃ r i' h', Ev (fun k => spec_l6Draw.l0 k l ps ps (ps.length : Int) (pre.length : Int) b i h) (r, i', h') ∧ 0 ≤ i' ∧ gRig r := by
 have hps2 : ∀ x ∈ ps, x.size ≤ 1000 := fun x hx => by have := pName_size (hps x hx); omega
 intro suf
 induction suf with
 | nil =>
  intro pre l i h hd hi hl hne
  have key : ∀ L : List ByteArray, L.length = 4 → (∀ x ∈ L, x.size ≤ 1000) → ∃ r i' h', Ev (fun k => (some L).bind fun y325 => ((spec_l1Below.f b i h 5).bind fun bt328 => (if 0 ≤ bt328.1 then (if bt328.1 ≤ (y325.length : Int) then ((some (y325.take (bt328.1 : Int).toNat : List ByteArray)).bind fun y331 => (spec_l6Draw.l1 k l ps y331 y331 (y331.length : Int) 0 b bt328.2.1 bt328.2.2)) else (none)) else (none)))) (r, i', h') ∧ 0 ≤ i' ∧ gRig r := by
   intro L h4 hL
   obtain ⟨x, i1, h1, e1, hi1, x0, x5⟩ := l1Below_ok b i h 5 hb hi
   obtain ⟨r, i', h', e, z⟩ := l6Draw_l1 b hb ps (L.take x.toNat) hp hps2 (fun y hy => hL y (List.mem_of_mem_take hy)) (by rw [List.length_take]; omega) (L.take x.toNat) [] l i1 h1 rfl hi1 ⟨hl, hne (fun e => hp (by rw [hd, e]; rfl))⟩
   refine ⟨r, i', h', ?_, z⟩
   simp only [e1, Option.bind_some, if_pos x0, if_pos (show x ≤ (L.length : Int) by omega)]
   exact e
  obtain ⟨r, i', h', e, z⟩ := key [(⟨#[97]⟩ : ByteArray), (⟨#[98]⟩ : ByteArray), (⟨#[99]⟩ : ByteArray), (⟨#[114]⟩ : ByteArray)] rfl (by decide)
  refine ⟨r, i', h', ev_succ ?_, z⟩
  simp only [spec_l6Draw.l0, if_neg (ixn hd)]
  exact e
 | cons a s ih =>
  intro pre l i h hd hi hl _
  obtain ⟨g1, g2, g3, g4⟩ := ix hd (by omega)
  obtain ⟨x, i1, h1, e1, hi1, x0, x1⟩ := l1Below_ok b i h 80 hb hi
  have ha : pName a = true := hps a (by rw [hd]; simp)
  have eq := l6Draw_add l ⟨a, 1, (⟨#[]⟩ : ByteArray), ⟨0, 0⟩, 0, 0, x⟩ hl ⟨by have := hps2 a (by rw [hd]; simp); show a.size ≤ _; omega, by show (0 : Nat) ≤ _; omega⟩
  have hok : dOk ⟨a, 1, (⟨#[]⟩ : ByteArray), ⟨0, 0⟩, 0, 0, x⟩ = true := by
   unfold dOk pDevice
   simp only [ha, if_true, Bool.true_and, beq_self_eq_true, Bool.and_true]
   simp [pSup]; omega
  obtain ⟨r, i', h', e, z⟩ := ih (pre ++ [a]) (pAddD l ⟨a, 1, (⟨#[]⟩ : ByteArray), ⟨0, 0⟩, 0, 0, x⟩).1 i1 h1 g4 hi1 (pAddD_rig hl _) (fun _ => pAddD_pump hl hok rfl)
  refine ⟨r, i', h', ev_succ ?_, z⟩
  simp only [spec_l6Draw.l0, if_pos g1, if_pos (nn _), rdOf, Int.toNat_natCast, g2, g3, e1, Option.bind_some]
  refine Ev.bind eq ?_
  exact e
theorem l6Draw_ok (b : List Int) (i h : Int) (hb : b.length < 1099511627776) (hi : 0 ≤ i) : ∃ r i' h', Ev (fun k => spec_l6Draw.f k b i h) (r, i', h') ∧ 0 ≤ i' ∧ gRig r := by
 have key : ∀ L : List ByteArray, L.length = 2 → (∀ x ∈ L, pName x = true) → ∃ r i' h', Ev (fun k => (some L).bind fun y307 => ((spec_l1Below.f b i h 2).bind fun bt310 => (if 0 ≤ (wrap64 (1 + bt310.1)) then (if (wrap64 (1 + bt310.1)) ≤ (y307.length : Int) then ((some (y307.take ((wrap64 (1 + bt310.1)) : Int).toNat : List ByteArray)).bind fun y313 => (spec_l6Draw.l0 k ([] : List De) y313 y313 (y313.length : Int) 0 b bt310.2.1 bt310.2.2)) else (none)) else (none)))) (r, i', h') ∧ 0 ≤ i' ∧ gRig r := by
  intro L h2 hL
  obtain ⟨x, i1, h1, e1, hi1, x0, x2⟩ := l1Below_ok b i h 2 hb hi
  have w : wrap64 (1 + x) = 1 + x := by unfold wrap64; omega
  have hlen : (L.take (1 + x).toNat).length = (1 + x).toNat := by rw [List.length_take]; omega
  obtain ⟨r, i', h', e, z⟩ := l6Draw_l0 b hb (L.take (1 + x).toNat) (fun e => by rw [e] at hlen; simp at hlen; omega) (fun y hy => hL y (List.mem_of_mem_take hy)) (by omega) (L.take (1 + x).toNat) [] [] i1 h1 rfl hi1 rfl (fun h => absurd rfl h)
  refine ⟨r, i', h', ?_, z⟩
  simp only [e1, Option.bind_some, w, if_pos (show 0 ≤ 1 + x by omega), if_pos (show 1 + x ≤ (L.length : Int) by omega)]
  exact e
 exact key [(⟨#[112]⟩ : ByteArray), (⟨#[113]⟩ : ByteArray)] rfl (by
  intro x hx
  simp only [List.mem_cons, List.not_mem_nil, or_false] at hx
  rcases hx with rfl | rfl
  ·rfl
  ·rfl)
theorem l2Any_ok (b : List Int) (i h : Int) (hb : b.length < 1099511627776) (hi : 0 ≤ i) : ∃ x y i' h', Ev (fun k => spec_l2Any.f k b i h) (x, y, i', h') ∧ 0 ≤ i' := by
 have j : ∀ (x y i h : Int), 0 ≤ i → ∃ x' y' i' h', Ev (fun k => spec_l2Any.j0 k b i h x y) (x', y', i', h') ∧ 0 ≤ i' := by
  intro x y i h hi
  obtain ⟨o, i1, h1, e1, hi1⟩ := l1Once_ok b i h 9 hb hi
  cases o with
  | false => exact ⟨_, _, _, _, ev_succ (by simp only [spec_l2Any.j0, e1, Option.bind_some, Bool.false_eq_true, if_false]; exact Ev.now _), hi1⟩
  | true =>
   obtain ⟨z, i2, h2, e2, hi2, _⟩ := l1Int_ok b i1 h1 [4096, (-4096), 4097, (-4097), 4090] hb hi1 (by simp)
   exact ⟨_, _, _, _, ev_succ (by simp only [spec_l2Any.j0, e1, e2, Option.bind_some, if_true]; exact Ev.now _), hi2⟩
 obtain ⟨x, y, i1, h1, e1, hi1⟩ := l2Draw_ok b i h hb hi
 obtain ⟨o, i2, h2, e2, hi2⟩ := l1Once_ok b i1 h1 9 hb hi1
 cases o with
 | false =>
  obtain ⟨x', y', i', h', e, hi'⟩ := j x y i2 h2 hi2
  exact ⟨x', y', i', h', by simp only [spec_l2Any.f, e1, e2, Option.bind_some, Bool.false_eq_true, if_false]; exact e, hi'⟩
 | true =>
  obtain ⟨z, i3, h3, e3, hi3⟩ := l1Odd_ok b i2 h2 hb hi2
  obtain ⟨x', y', i', h', e, hi'⟩ := j z y i3 h3 hi3
  exact ⟨x', y', i', h', by simp only [spec_l2Any.f, e1, e2, e3, Option.bind_some, if_true]; exact e, hi'⟩
theorem l3Any_ok (b : List Int) (i h : Int) (hb : b.length < 1099511627776) (hi : 0 ≤ i) : ∃ x y hd t lf i' h', Ev (fun k => spec_l3Any.f k b i h) (x, y, hd, t, lf, i', h') ∧ 0 ≤ i' := by
 obtain ⟨x, y, hd, t, lf, i1, h1, e1, hi1⟩ := l3Draw_ok b i h hb hi
 obtain ⟨o, i2, h2, e2, hi2, _⟩ := l1Below_ok b i1 h1 12 hb hi1
 simp only [spec_l3Any.f, e1, e2, Option.bind_some]
 by_cases c0 : o = 0
 ·obtain ⟨u, v, i3, h3, e3, hi3⟩ := l2Any_ok b i2 h2 hb hi2
  refine ⟨u, v, hd, t, lf, i3, h3, ?_, hi3⟩
  simp only [if_pos c0]
  refine Ev.bind e3 ?_
  exact Ev.now _
 ·simp only [if_neg c0]
  by_cases c1 : o = 1
  ·obtain ⟨u, i3, h3, e3, hi3⟩ := l1Odd_ok b i2 h2 hb hi2
   refine ⟨x, y, u, t, lf, i3, h3, ?_, hi3⟩
   simp only [if_pos c1, e3, Option.bind_some]
   exact Ev.now _
  ·simp only [if_neg c1]
   by_cases c2 : o = 2
   ·obtain ⟨u, i3, h3, e3, hi3, _⟩ := l1Int_ok b i2 h2 [(-1), 17, 16, 1000, 9223372036854775807] hb hi2 (by simp)
    refine ⟨x, y, hd, u, lf, i3, h3, ?_, hi3⟩
    simp only [if_pos c2, e3, Option.bind_some]
    exact Ev.now _
   ·simp only [if_neg c2]
    by_cases c3 : o = 3
    ·obtain ⟨u, i3, h3, e3, hi3, _⟩ := l1Int_ok b i2 h2 [0, (-1), 33, 32, 9223372036854775807, (-9223372036854775808)] hb hi2 (by simp)
     refine ⟨x, y, hd, t, u, i3, h3, ?_, hi3⟩
     simp only [if_pos c3, e3, Option.bind_some]
     exact Ev.now _
    ·simp only [if_neg c3]
     by_cases c4 : o = 4
     ·obtain ⟨u, i3, h3, e3, hi3, _⟩ := l1Int_ok b i2 h2 [1024, 1025, (-1024), (-1025)] hb hi2 (by simp)
      obtain ⟨v, i4, h4, e4, hi4, _⟩ := l1Int_ok b i3 h3 [0, 1024, (-1025)] hb hi3 (by simp)
      refine ⟨u, v, hd, t, lf, i4, h4, ?_, hi4⟩
      simp only [if_pos c4, e3, e4, Option.bind_some]
      exact Ev.now _
     ·refine ⟨x, y, hd, t, lf, i2, h2, ?_, hi2⟩
      simp only [if_neg c4]
      exact Ev.now _
theorem l6Any_j2 (b : List Int) (hb : b.length < 1099511627776) (n : ByteArray) (kd : Int) (l : ByteArray) (x y hd t m i h : Int) (hi : 0 ≤ i) (hn : n.size ≤ 1000) (hl : l.size ≤ 1000) :
  ∃ (c : De) (i' h' : Int), Ev (fun k => spec_l6Any.j2 k b i h n kd l x y hd t m) (c.f0, c.f1, c.f2, c.f3.f0, c.f3.f1, c.f4, c.f5, c.f6, i', h') ∧ 0 ≤ i' ∧ c.f0.size ≤ 1000 ∧ c.f2.size ≤ 1000 := by
 obtain ⟨o, i2, h2, e2, hi2, _⟩ := l1Below_ok b i h 12 hb hi
 by_cases c0 : o = 0
 ·obtain ⟨u, i3, h3, e3, hi3, hu⟩ := l1Word_ok b i2 h2 hb hi2
  exact ⟨⟨u, kd, l, ⟨x, y⟩, hd, t, m⟩, i3, h3, ev_succ (by simp only [spec_l6Any.j2, e2, e3, Option.bind_some, if_pos c0]; exact Ev.now _), hi3, hu, hl⟩
 ·by_cases c1 : o = 1
  ·obtain ⟨u, i3, h3, e3, hi3⟩ := l1Odd_ok b i2 h2 hb hi2
   exact ⟨⟨n, kd, l, ⟨x, y⟩, hd, u, m⟩, i3, h3, ev_succ (by simp only [spec_l6Any.j2, e2, e3, Option.bind_some, if_neg c0, if_pos c1]; exact Ev.now _), hi3, hn, hl⟩
  ·by_cases c2 : o = 2
   ·obtain ⟨u, v, p, q, r, i3, h3, e3, hi3⟩ := l3Any_ok b i2 h2 hb hi2
    refine ⟨⟨n, kd, l, ⟨u, v⟩, hd, t, m⟩, i3, h3, ev_succ ?_, hi3, hn, hl⟩
    simp only [spec_l6Any.j2, e2, Option.bind_some, if_neg c0, if_neg c1, if_pos c2]
    refine Ev.bind e3 ?_
    exact Ev.now _
   ·exact ⟨⟨n, kd, l, ⟨x, y⟩, hd, t, m⟩, i2, h2, ev_succ (by simp only [spec_l6Any.j2, e2, Option.bind_some, if_neg c0, if_neg c1, if_neg c2]; exact Ev.now _), hi2, hn, hl⟩
theorem l6Any_j1 (b : List Int) (hb : b.length < 1099511627776) (o : Int) (z : Bool) (n : ByteArray) (kd : Int) (l : ByteArray) (x y hd t m i h : Int) (hi : 0 ≤ i) (hn : n.size ≤ 1000) (hl : l.size ≤ 1000) :
  ∃ (c : De) (i' h' : Int), Ev (fun k => spec_l6Any.j1 k o z b i h n kd l x y hd t m) (c.f0, c.f1, c.f2, c.f3.f0, c.f3.f1, c.f4, c.f5, c.f6, i', h') ∧ 0 ≤ i' ∧ c.f0.size ≤ 1000 ∧ c.f2.size ≤ 1000 := by
 cases z with
 | true =>
  obtain ⟨u, i1, h1, e1, hi1, hu⟩ := l6Name_ok b i h hb hi
  obtain ⟨v, i2, h2, e2, hi2, hv⟩ := l6Name_ok b i1 h1 hb hi1
  obtain ⟨p, q, i3, h3, e3, hi3⟩ := l2Any_ok b i2 h2 hb hi2
  obtain ⟨c, i', h', e, r⟩ := l6Any_j2 b hb u 3 v p q 0 0 0 i3 h3 hi3 hu hv
  refine ⟨c, i', h', ev_succ ?_, r⟩
  simp only [spec_l6Any.j1, e1, e2, Option.bind_some, if_true]
  refine Ev.bind e3 ?_
  exact e
 | false =>
  by_cases c4 : o = 4
  ·obtain ⟨u, i3, h3, e3, hi3⟩ := l1Odd_ok b i h hb hi
   obtain ⟨c, i', h', e, r⟩ := l6Any_j2 b hb n kd l x y hd t u i3 h3 hi3 hn hl
   exact ⟨c, i', h', ev_succ (by simp only [spec_l6Any.j1, e3, Option.bind_some, Bool.false_eq_true, if_false, if_pos c4]; exact e), r⟩
  ·by_cases c5 : o = 5
   ·obtain ⟨u, i3, h3, e3, hi3⟩ := l1Odd_ok b i h hb hi
    obtain ⟨c, i', h', e, r⟩ := l6Any_j2 b hb n u l x y hd t m i3 h3 hi3 hn hl
    exact ⟨c, i', h', ev_succ (by simp only [spec_l6Any.j1, e3, Option.bind_some, Bool.false_eq_true, if_false, if_neg c4, if_pos c5]; exact e), r⟩
   ·obtain ⟨c, i', h', e, r⟩ := l6Any_j2 b hb n kd l x y hd t m i h hi hn hl
    exact ⟨c, i', h', ev_succ (by simp only [spec_l6Any.j1, Bool.false_eq_true, if_false, if_neg c4, if_neg c5]; exact e), r⟩
theorem l6Any_j0 (b : List Int) (hb : b.length < 1099511627776) (o : Int) (z : Bool) (n : ByteArray) (kd : Int) (l : ByteArray) (x y hd t m i h : Int) (hi : 0 ≤ i) (hn : n.size ≤ 1000) (hl : l.size ≤ 1000) :
  ∃ (c : De) (i' h' : Int), Ev (fun k => spec_l6Any.j0 k o z b i h n kd l x y hd t m) (c.f0, c.f1, c.f2, c.f3.f0, c.f3.f1, c.f4, c.f5, c.f6, i', h') ∧ 0 ≤ i' ∧ c.f0.size ≤ 1000 ∧ c.f2.size ≤ 1000 := by
 cases z with
 | true =>
  obtain ⟨u, i1, h1, e1, hi1, hu⟩ := l6Name_ok b i h hb hi
  obtain ⟨v, i2, h2, e2, hi2, _⟩ := l1Below_ok b i1 h1 600 hb hi1
  obtain ⟨c, i', h', e, r⟩ := l6Any_j2 b hb u 1 (⟨#[]⟩ : ByteArray) 0 0 0 0 v i2 h2 hi2 hu (by show (0 : Nat) ≤ _; omega)
  refine ⟨c, i', h', ev_succ ?_, r⟩
  simp only [spec_l6Any.j0, e1, e2, Option.bind_some, if_true]
  exact e
 | false =>
  by_cases c2 : o = 2
  ·obtain ⟨c, i', h', e, r⟩ := l6Any_j1 b hb o (o == 2) n kd l x y hd t m i h hi hn hl
   exact ⟨c, i', h', ev_succ (by simp only [spec_l6Any.j0, Bool.false_eq_true, if_false, if_pos c2]; exact e), r⟩
  ·obtain ⟨c, i', h', e, r⟩ := l6Any_j1 b hb o (o == 3) n kd l x y hd t m i h hi hn hl
   exact ⟨c, i', h', ev_succ (by simp only [spec_l6Any.j0, Bool.false_eq_true, if_false, if_neg c2]; exact e), r⟩
theorem l6Any_ok (b : List Int) (i h : Int) (hb : b.length < 1099511627776) (hi : 0 ≤ i) :
  ∃ (c : De) (i' h' : Int), Ev (fun k => spec_l6Any.f k b i h) (c.f0, c.f1, c.f2, c.f3.f0, c.f3.f1, c.f4, c.f5, c.f6, i', h') ∧ 0 ≤ i' ∧ c.f0.size ≤ 1000 ∧ c.f2.size ≤ 1000 := by
 obtain ⟨u, i1, h1, e1, hi1, hu⟩ := l6Name_ok b i h hb hi
 obtain ⟨v, i2, h2, e2, hi2, hv⟩ := l6Name_ok b i1 h1 hb hi1
 obtain ⟨x, y, hd, t, m, i3, h3, e3, hi3⟩ := l6Nozzle_ok b i2 h2 u v hb hi2
 obtain ⟨o, i4, h4, e4, hi4, _⟩ := l1Below_ok b i3 h3 9 hb hi3
 simp only [spec_l6Any.f, e1, e2, e3, e4, Option.bind_some]
 by_cases c0 : o = 0
 ·simp only [if_pos c0]; exact l6Any_j0 b hb o _ u 2 v x y hd t m i4 h4 hi4 hu hv
 ·simp only [if_neg c0]; exact l6Any_j0 b hb o _ u 2 v x y hd t m i4 h4 hi4 hu hv
theorem l6List_l0 (b : List Int) (i h : Int) (ns : List ByteArray) (hns : ∀ x ∈ ns, x.size ≤ 1000) (hnl : ns.length ≤ 6) : ∀ (suf pre : List ByteArray) (l : List De), ns = pre ++ suf → szD l → l.length ≤ 9 + pre.length →
  ∃ r, Ev (fun k => spec_l6List.l0 k l ns (ns.length : Int) (pre.length : Int) b i h) (r, i, h) ∧ r.length ≤ 20 ∧ szD r := by
 intro suf
 induction suf with
 | nil =>
  intro pre l hd hz hl
  have : pre.length = ns.length := by rw [hd]; simp
  refine ⟨l, ev_succ ?_, by omega, hz⟩
  simp only [spec_l6List.l0, if_neg (ixn hd)]
  exact Ev.now _
 | cons a s ih =>
  intro pre l hd hz hl
  obtain ⟨g1, g2, g3, g4⟩ := ix hd (by omega)
  have hpl : pre.length + (s.length + 1) = ns.length := by rw [hd]; simp
  obtain ⟨r, e, x⟩ := ih (pre ++ [a]) (l ++ [(⟨a, 1, (⟨#[]⟩ : ByteArray), ⟨0, 0⟩, 0, 0, 0⟩ : De)]) g4 (fun c hc => by
   rcases List.mem_append.1 hc with hc | hc
   ·exact hz c hc
   ·rw [List.mem_singleton.1 hc]
    exact ⟨by have := hns a (by rw [hd]; simp); show a.size ≤ _; omega, by show (0 : Nat) ≤ _; omega⟩) (by simp; omega)
  refine ⟨r, ev_succ ?_, x⟩
  simp only [spec_l6List.l0, if_pos g1, if_pos (nn _), rdOf, Int.toNat_natCast, g2, g3, if_pos (show l.length < 1759218604441 by omega)]
  exact e
theorem l6List_ok (b : List Int) (i h : Int) (hb : b.length < 1099511627776) (hi : 0 ≤ i) : ∃ r i' h', Ev (fun k => spec_l6List.f k b i h) (r, i', h') ∧ 0 ≤ i' ∧ r.length ≤ 20 ∧ szD r := by
 obtain ⟨l, i1, h1, e1, hi1, hr⟩ := l6Draw_ok b i h hb hi
 obtain ⟨o, i2, h2, e2, hi2, _⟩ := l1Below_ok b i1 h1 12 hb hi1
 have hl := pRig_len hr.1
 have hz := pRig_sz hr.1
 by_cases c0 : o = 0
 ·obtain ⟨c, i3, h3, e3, hi3, n1, n2⟩ := l6Any_ok b i2 h2 hb hi2
  refine ⟨l ++ [c], i3, h3, ?_, hi3, by simp; omega, fun y hy => ?_⟩
  ·unfold spec_l6List.f
   refine Ev.bind e1 ?_
   simp only [e2, Option.bind_some, if_pos c0]
   refine Ev.bind e3 ?_
   simp only [if_pos (show l.length < 1759218604441 by omega)]
   exact Ev.now _
  ·rcases List.mem_append.1 hy with hy | hy
   ·exact hz y hy
   ·rw [List.mem_singleton.1 hy]; exact ⟨by omega, by omega⟩
 ·by_cases c1 : o = 1
  ·have hne : 1 ≤ (l.length : Int) := by have := List.length_pos_iff.2 hr.2; omega
   refine ⟨l.drop 1, i2, h2, ?_, hi2, by rw [List.length_drop]; omega, fun y hy => hz y (List.mem_of_mem_drop hy)⟩
   unfold spec_l6List.f
   refine Ev.bind e1 ?_
   simp only [e2, Option.bind_some, if_neg c0, if_pos c1, if_pos hne]
   exact Ev.now _
  ·by_cases c2 : o = 2
   ·have key : ∀ L : List ByteArray, L.length ≤ 6 → (∀ x ∈ L, x.size ≤ 1000) → ∃ r, Ev (fun k => (some L).bind fun y542 => (spec_l6List.l0 k l y542 (y542.length : Int) 0 b i2 h2)) (r, i2, h2) ∧ r.length ≤ 20 ∧ szD r := fun L h6 hL => by
     obtain ⟨r, e, x⟩ := l6List_l0 b i2 h2 L hL h6 L [] l rfl hz (by simp; omega)
     exact ⟨r, e, x⟩
    obtain ⟨r, e, x⟩ := key [(⟨#[115]⟩ : ByteArray), (⟨#[116]⟩ : ByteArray), (⟨#[117]⟩ : ByteArray), (⟨#[118]⟩ : ByteArray), (⟨#[119]⟩ : ByteArray), (⟨#[120]⟩ : ByteArray)] (by decide) (by decide)
    refine ⟨r, i2, h2, ?_, hi2, x⟩
    unfold spec_l6List.f
    refine Ev.bind e1 ?_
    simp only [e2, Option.bind_some, if_neg c0, if_neg c1, if_pos c2]
    exact e
   ·refine ⟨l, i2, h2, ?_, hi2, by omega, hz⟩
    unfold spec_l6List.f
    refine Ev.bind e1 ?_
    simp only [e2, Option.bind_some, if_neg c0, if_neg c1, if_neg c2]
    exact Ev.now _
theorem laws_rigs_l0 (x : List De) (hl : x.length < 1099511627776) : ∀ (d i : Nat), i + d = x.length → Ev (fun k => laws_rigs.l0 k x x (i : Int)) true := by
 intro d
 induction d with
 | zero =>
  intro i h
  refine ev_succ ?_
  simp only [laws_rigs.l0, if_neg (show ¬ ((i : Int) < (x.length : Int)) by omega)]
  exact Ev.now _
 | succ d ih =>
  intro i h
  refine ev_succ ?_
  simp only [laws_rigs.l0, if_pos (show ((i : Int) < (x.length : Int)) by omega), if_pos (nn _), beq_self_eq_true, Bool.not_true, Bool.or_false, Bool.false_eq_true, if_false]
  rw [show wrap64 ((i : Int) + 1) = ((i + 1 : Nat) : Int) by unfold wrap64; omega]
  exact ih (i + 1) (by omega)
theorem laws_rigs_rfl (x : List De) (hl : x.length < 1099511627776) : Ev (fun k => laws_rigs.f k x x) true := by
 simp only [laws_rigs.f, if_true]
 exact laws_rigs_l0 x hl x.length 0 (by omega)
theorem DrawRig_ok (b : List Int) (hb : b.length < 1099511627776) : ∃ l, Ev (fun k => spec_DrawRig.f k b) l ∧ gRig l := by
 obtain ⟨h0, e0⟩ := l1New_ev b hb
 obtain ⟨l, i1, h1, e1, hi1, hl⟩ := l6Draw_ok b 0 h0 hb (by omega)
 refine ⟨l, ?_, hl⟩
 unfold spec_DrawRig.f
 refine Ev.bind e0 ?_
 refine Ev.bind e1 ?_
 exact Ev.now _
theorem DrawTurnRig_ok (b : List Int) (hb : b.length < 1099511627776) : ∃ q, Ev (fun k => spec_DrawTurnRig.f k b) q := by
 obtain ⟨h0, e0⟩ := l1New_ev b hb
 obtain ⟨l, i1, h1, e1, hi1, _⟩ := l6List_ok b 0 h0 hb (by omega)
 obtain ⟨n, i2, h2, e2, hi2⟩ := l2Turns_ok b i1 h1 hb hi1
 refine ⟨(l, n), ?_⟩
 unfold spec_DrawTurnRig.f
 refine Ev.bind e0 ?_
 refine Ev.bind e1 ?_
 simp only [e2, Option.bind_some]
 exact Ev.now _
/-- A change of devices that keeps name, kind and line. -/
def kept3 (g : De → De) : Prop := ∀ d, (g d).f0 = d.f0 ∧ (g d).f1 = d.f1 ∧ (g d).f2 = d.f2
theorem dTurn_kept (n : Int) : kept3 (dTurn n) := fun _ => ⟨rfl, rfl, rfl⟩
theorem dShift_kept (x y : Int) : kept3 (dShift x y) := fun d => by unfold dShift; split <;> exact ⟨rfl, rfl, rfl⟩
theorem dIdx_map {g : De → De} (hg : kept3 g) (x : ByteArray) : ∀ (l : List De) (i : Int), dIdx x (l.map g) i = dIdx x l i
 | [], _ => rfl
 | a :: t, i => by rw [List.map_cons, dIdx, dIdx, (hg a).1, dIdx_map hg x t]
theorem pFind_map {g : De → De} (hg : kept3 g) (l : List De) (x : ByteArray) : pFind (l.map g) x = pFind l x := dIdx_map hg x l 0
theorem rig_map {g : De → De} (hg : kept3 g) {l : List De} (h : pRig l = true) (hk : ∀ d ∈ l, dOk (g d) = true) : pRig (l.map g) = true := by
 obtain ⟨a1, a2, a3, a4⟩ := (pRig_iff l).1 h
 have hp : (l.map g).Pairwise dLt := by
  rw [List.pairwise_map]
  exact a3.imp (fun {a b} hab => by unfold dLt at *; rw [(hg a).1, (hg b).1]; exact hab)
 refine (pRig_iff _).2 ⟨fun d hd => ?_, fun d hd => ?_, hp, by rw [List.length_map]; exact a4⟩
 ·obtain ⟨e, he, rfl⟩ := List.mem_map.1 hd; exact hk e he
 ·obtain ⟨e, he, rfl⟩ := List.mem_map.1 hd
  rw [pHung_iff hp, (hg e).2.1, (hg e).2.2]
  rcases (pHung_iff a3 e).1 (a2 e he) with x | ⟨y, hy, e1, e2⟩
  ·exact .inl x
  ·exact .inr ⟨g y, List.mem_map.2 ⟨y, hy, rfl⟩, by rw [(hg y).1]; exact e1, by rw [(hg y).2.1]; exact e2⟩
theorem getD_map3 {g : De → De} (hg : kept3 g) (l : List De) (i : Nat) : ((l.map g).getD i z87).f0 = (l.getD i z87).f0 ∧ ((l.map g).getD i z87).f1 = (l.getD i z87).f1 ∧ ((l.map g).getD i z87).f2 = (l.getD i z87).f2 := by
 simp only [List.getD_eq_getElem?_getD, List.getElem?_map]
 cases l[i]? with
 | none => exact ⟨rfl, rfl, rfl⟩
 | some d => exact hg d
theorem pPumpN_map {g : De → De} (hg : kept3 g) (l : List De) : ∀ (n : Nat) (i : Int), pPumpN (l.map g) n i = pPumpN l n i
 | 0, _ => rfl
 | n + 1, i => by
  obtain ⟨h0, h1, h2⟩ := getD_map3 hg l i.toNat
  rw [pPumpN, pPumpN, h0, h1, h2, pFind_map hg, pPumpN_map hg l n]
theorem pPump_map {g : De → De} (hg : kept3 g) {l : List De} (h : pRig l = true) (h' : pRig (l.map g) = true) (x : ByteArray) : pPump (l.map g) x = pPump l x := by
 unfold pPump
 rw [if_pos h, if_pos h', pFind_map hg, pPumpN_map hg]
theorem rotN_add (a : Nat) : ∀ (b : Nat) (p : Int × Int), rotN a (rotN b p) = rotN (b + a) p
 | 0, p => by rw [rotN, Nat.zero_add]
 | b + 1, p => by rw [rotN, rotN_add a b, show b + 1 + a = (b + a) + 1 by omega, rotN]
theorem rotN_four (p : Int × Int) (h : inB 4096 p) : rotN 4 p = p := by
 obtain ⟨x, y⟩ := p
 obtain ⟨⟨h1, h2⟩, h3, h4⟩ := h
 simp only at h1 h2 h3 h4
 have e1 : wrap64 (-y) = -y := by unfold wrap64; omega
 have e2 : wrap64 (-x) = -x := by unfold wrap64; omega
 have e3 : wrap64 (-(-y)) = y := by unfold wrap64; omega
 have e4 : wrap64 (-(-x)) = x := by unfold wrap64; omega
 simp only [rotN, e1, e2, e3, e4]
theorem turn_back {d : De} (h : dOk d = true) (n : Int) : dTurn (4 - Int.tmod n 4) (dTurn n d) = d := by
 obtain ⟨hb, _, p2⟩ := dOk_place h
 have t1 : Int.tmod n 4 % 4 = n % 4 := by
  have := Int.mul_tdiv_add_tmod n 4; omega
 have hm : (4 - Int.tmod n 4) % 4 = (4 - n % 4) % 4 := by omega
 have hp : pTurn4 (4 - Int.tmod n 4) (pTurn4 n (d.f3.f0, d.f3.f1)) = (d.f3.f0, d.f3.f1) := by
  unfold pTurn4
  rw [hm, rotN_add]
  by_cases c : n % 4 = 0
  ·rw [c]; rfl
  ·rw [show (n % 4).toNat + ((4 - n % 4) % 4).toNat = 4 by omega]
   exact rotN_four _ hb
 obtain ⟨f0, f1, f2, ⟨px, py⟩, f4, f5, f6⟩ := d
 simp only at hp p2
 have h4 : (if f1 = 2 then ((if f1 = 2 then (f4 + n % 4) % 4 else f4) + (4 - Int.tmod n 4) % 4) % 4 else (if f1 = 2 then (f4 + n % 4) % 4 else f4)) = f4 := by
  by_cases k : f1 = 2
  ·have := (p2 k).1
   simp only [if_pos k, hm]; omega
  ·simp only [if_neg k]
 simp only [dTurn, h4, hp]
theorem shift_back {d : De} (x y : Int) : dShift (-x) (-y) (dShift x y d) = d := by
 by_cases k : d.f1 = 1
 ·have e : dShift x y d = d := by unfold dShift; rw [if_pos k]
  rw [e]; unfold dShift; rw [if_pos k]
 ·obtain ⟨f0, f1, f2, ⟨px, py⟩, f4, f5, f6⟩ := d
  simp only at k
  simp only [dShift, if_neg k, Int.add_neg_cancel_right]
theorem map_back {g g' : De → De} {l : List De} (h : ∀ d ∈ l, g' (g d) = d) : (l.map g).map g' = l := by
 rw [List.map_map]
 exact (List.map_congr_left (fun d hd => h d hd)).trans (List.map_id _)
theorem FnMovedRig_l0 (l x y z : List De) (g : De → De) (hg : kept3 g) (hy : y = l.map g) (hl : pRig l = true) (hyr : pRig y = true) (hzx : z = x) (hx : x.length < 1099511627776) : ∀ (suf pre : List De), l = pre ++ suf →
  Ev (fun k => laws_FnMovedRig.l0 k l x y z true (pre.length : Int)) true := by
 have hll : l.length < 1099511627776 := by have := pRig_len hl; omega
 have hyl : y.length = l.length := by rw [hy, List.length_map]
 intro suf
 induction suf with
 | nil =>
  intro pre h
  refine ev_succ ?_
  simp only [laws_FnMovedRig.l0, if_neg (ixn h), if_true, hzx]
  refine Ev.bind (laws_rigs_rfl x hx) ?_
  exact Ev.now _
 | cons a s ih =>
  intro pre h
  obtain ⟨h1, h2, h3, h4⟩ := ix h (by omega)
  have hyg : ∀ d, y.getD pre.length d = g a := fun d => by
   rw [hy, h]; simp [List.getD]
  refine ev_succ ?_
  simp only [laws_FnMovedRig.l0, if_pos h1, if_pos (nn _), if_pos (show (pre.length : Int) < (y.length : Int) by omega), Int.toNat_natCast, rd_T87, h2, h3, hyg, (hg a).1, (hg a).2.2, if_true]
  refine Ev.bind (impl_PumpOf_ev y a.f0 (by omega) (pRig_sz hyr)) ?_
  refine Ev.bind (impl_PumpOf_ev l a.f0 hll (pRig_sz hl)) ?_
  have e : pPump y a.f0 = pPump l a.f0 := by subst hy; exact pPump_map hg hl hyr _
  simp only [e, if_true]
  exact ih _ h4
theorem FnMovedRig : laws_FnMovedRig.Pure := by
 intro b _ hb' _
 refine Ev.rounds ?_
 simp only [laws_FnMovedRig.f, laws_big_eq, Option.bind_some, decide_eq_true_eq]
 refine ev_ite (fun _ => Ev.now _) (fun h => ?_)
 have hb : b.length < 1099511627776 := by omega
 obtain ⟨l, e, hl, _⟩ := DrawRig_ok b hb
 obtain ⟨⟨q, n⟩, e2⟩ := DrawTurnRig_ok b hb
 have hll : l.length < 1099511627776 := by have := pRig_len hl; omega
 have hk := ((pRig_iff l).1 hl).1
 refine Ev.bind e ?_
 refine Ev.bind e2 ?_
 have ex : pTurnRig l n = l.map (dTurn n) := by unfold pTurnRig; rw [if_pos hl]
 have hxr : pRig (l.map (dTurn n)) = true := rig_map (dTurn_kept n) hl (fun d hd => dTurn_ok (hk d hd) n)
 have hxl : (l.map (dTurn n)).length < 1099511627776 := by rw [List.length_map]; exact hll
 refine Ev.bind (impl_TurnRig_ev l n hll (pRig_sz hl)) ?_
 rw [ex]
 refine Ev.bind (impl_IsRig_ev _ hxl (pRig_sz hxr)) ?_
 simp only [hxr, if_true]
 have hw : wrap64 (4 - Int.tmod n 4) = 4 - Int.tmod n 4 := by
  have h1 := Int.tmod_lt_of_pos n (show (0 : Int) < 4 by omega)
  have h2 : -4 < Int.tmod n 4 := by
   have := Int.tmod_lt_of_pos (-n) (show (0 : Int) < 4 by omega)
   rw [Int.neg_tmod] at this
   omega
  unfold wrap64; omega
 rw [hw]
 refine Ev.bind (impl_TurnRig_ev _ _ hxl (pRig_sz hxr)) ?_
 have ex2 : pTurnRig (l.map (dTurn n)) (4 - Int.tmod n 4) = l := by
  unfold pTurnRig; rw [if_pos hxr]; exact map_back (fun d hd => turn_back (hk d hd) n)
 rw [ex2]
 refine Ev.bind (laws_rigs_rfl l hll) ?_
 generalize hX : l.map (dTurn n) = x at *
 refine ev_succ ?_
 simp only [laws_FnMovedRig.j0, Bool.not_true, Bool.false_eq_true, if_false]
 refine Ev.bind (impl_ShiftRig_ev x _ _ hxl (pRig_sz hxr)) ?_
 have hpl : pPlace (b.length : Int) (-7) = true := by rw [pPlace_iff]; omega
 by_cases c : x.all (fun d => dOk (dShift (b.length : Int) (-7) d)) = true
 ·have es : pShift x (b.length : Int) (-7) = (x.map (dShift (b.length : Int) (-7)), true) := by
   unfold pShift; rw [if_pos hxr, if_pos hpl, if_pos c]
  rw [es]
  simp only [if_true]
  have hyr : pRig (x.map (dShift (b.length : Int) (-7))) = true := rig_map (dShift_kept _ _) hxr (fun d hd => List.all_eq_true.1 c d hd)
  have hyl : (x.map (dShift (b.length : Int) (-7))).length < 1099511627776 := by rw [List.length_map]; exact hxl
  have hw2 : wrap64 (-(b.length : Int)) = -(b.length : Int) := by unfold wrap64; omega
  rw [hw2]
  refine Ev.bind (impl_ShiftRig_ev _ _ _ hyl (pRig_sz hyr)) ?_
  have hpl2 : pPlace (-(b.length : Int)) (-(-7)) = true := by rw [pPlace_iff]; omega
  have hback : (x.map (dShift (b.length : Int) (-7))).map (dShift (-(b.length : Int)) (-(-7))) = x := map_back (fun d _ => shift_back _ _)
  have hkx := ((pRig_iff x).1 hxr).1
  have c2 : (x.map (dShift (b.length : Int) (-7))).all (fun d => dOk (dShift (-(b.length : Int)) (-(-7)) d)) = true := by
   rw [List.all_map, List.all_eq_true]
   intro d hd
   show dOk (dShift _ _ (dShift _ _ d)) = true
   rw [shift_back]; exact hkx d hd
  have es2 : pShift (x.map (dShift (b.length : Int) (-7))) (-(b.length : Int)) (-(-7)) = (x, true) := by
   unfold pShift; rw [if_pos hyr, if_pos hpl2, if_pos c2, hback]
  rw [es2]
  have hcomp : x.map (dShift (b.length : Int) (-7)) = l.map (fun d => dShift (b.length : Int) (-7) (dTurn n d)) := by
   rw [← hX, List.map_map]; rfl
  refine FnMovedRig_l0 l x _ x (fun d => dShift (b.length : Int) (-7) (dTurn n d)) (fun d => ?_) hcomp hl hyr rfl hxl l [] rfl
  have := dShift_kept (b.length : Int) (-7) (dTurn n d)
  exact ⟨this.1, this.2.1, this.2.2⟩
 ·have es : pShift x (b.length : Int) (-7) = ([], false) := by
   unfold pShift; rw [if_pos hxr, if_pos hpl, if_neg c]
  rw [es]
  simp only [Bool.false_eq_true, if_false, List.length_nil]
  exact Ev.now _

end Go.Proofs.Ytkljnmojnkiafaa.Pure
