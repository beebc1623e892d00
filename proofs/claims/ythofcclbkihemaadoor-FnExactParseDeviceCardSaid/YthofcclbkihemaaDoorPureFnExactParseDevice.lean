/- The law FnExactParseDevice comes to true for every input: The program's ParseDevice returns what the reference's returns, for all arguments. No condition beside the statement's own. -/
import Derived.Test.YthofcclbkihemaaDoorStFnExactParseDevice
namespace Go.Proofs.YthofcclbkihemaaDoor.Pure
open Go Go.RowKit Go.Proofs.YthofcclbkihemaaDoor.MFnExactParseDevice Go.Proofs.YthofcclbkihemaaDoorW.PrintWords Go.Proofs.YthofcclbkihemaaDoorW.PrintLast Go.Proofs.YthofcclbkihemaaDoorW.PrintMore
set_option linter.unusedVariables false
set_option linter.unusedSimpArgs false

theorem ev_succ {α : Type} {g : Nat → Option α} {r : α} (h : Ev (fun k => g (k + 1)) r) : Ev g r := Ev.step (fun _ => rfl) h
theorem ev_ite {α : Type} {c : Prop} [Decidable c] {f g : Nat → Option α} {r : α} (h : c → Ev f r) (h' : ¬ c → Ev g r) : Ev (fun k => if c then f k else g k) r := by
  by_cases hc : c
  · simp only [if_pos hc]; exact h hc
  · simp only [if_neg hc]; exact h' hc
theorem ix {α : Type} {l pre t : List α} {a : α} (h : l = pre ++ a :: t) (hl : l.length < 4611686018427387904) :
    (pre.length : Int) < (l.length : Int) ∧ (∀ d, l.getD pre.length d = a) ∧ wrap64 ((pre.length : Int) + 1) = ((pre ++ [a]).length : Int) ∧ l = (pre ++ [a]) ++ t := by
  subst h
  simp only [List.length_append, List.length_cons, List.length_nil] at *
  refine ⟨by omega, fun d => by simp [List.getD], by unfold wrap64; omega, by simp⟩
theorem ixn {α : Type} {l pre : List α} (h : l = pre ++ []) : ¬ (pre.length : Int) < (l.length : Int) := by
  subst h; simp
theorem nn (n : Nat) : (0 : Int) ≤ (n : Int) := Int.natCast_nonneg n
theorem w64 {n : Int} (h0 : -9223372036854775808 ≤ n) (h1 : n < 9223372036854775808) : wrap64 n = n := by unfold wrap64; omega
theorem mn_min (a b : Int) : mn a b = min a b := by unfold mn; omega
theorem mx_max (a b : Int) : mx a b = max a b := by unfold mx; omega
theorem set_app {α : Type} (pre t : List α) (a b : α) : (pre ++ a :: t).set pre.length b = pre ++ b :: t := by simp
theorem app1 {α : Type} (pre : List α) (a : α) (t : List α) : pre ++ a :: t = (pre ++ [a]) ++ t := by simp

/-- The numbers from c on, n of them. -/
def upto : Nat → Int → List Int
  | 0, _ => []
  | n + 1, c => c :: upto n (c + 1)
theorem upto_length : ∀ n c, (upto n c).length = n
  | 0, _ => rfl
  | n + 1, c => by simp [upto, upto_length n]

theorem spec_l1In_eq (a b c : Int) : spec_l1In.f a b c = some (decide (b ≤ a) && decide (a ≤ c)) := by
  unfold spec_l1In.f; split <;> simp <;> omega
theorem impl_isWithin_eq (a b c : Int) : impl_isWithin.f a b c = some (decide (b ≤ a) && decide (a ≤ c)) := by
  unfold impl_isWithin.f; split <;> simp <;> omega
def pSup (n : Int) : Bool := decide (0 ≤ n) && decide (n ≤ 512)
theorem spec_l5Supply_eq (n : Int) : spec_l5Supply.f n = some (pSup n) := by
  simp only [spec_l5Supply.f, spec_l1In_eq, Option.bind_some, pSup]
theorem impl_isSupply_eq (n : Int) : impl_isSupply.f n = some (pSup n) := by
  simp only [impl_isSupply.f, impl_isWithin_eq, Option.bind_some, pSup]
theorem ix2 {α : Type} {l pre t : List α} {p a : α} (h : l = (pre ++ [p]) ++ a :: t) (hl : l.length < 4611686018427387904) :
    (((pre ++ [p]).length : Int)) > 0 ∧ wrap64 (((pre ++ [p]).length : Int) - 1) = (pre.length : Int) ∧ (∀ d, l.getD pre.length d = p) ∧ (pre.length : Int) < (l.length : Int) := by
  subst h
  simp only [List.length_append, List.length_cons, List.length_nil] at *
  refine ⟨by omega, by unfold wrap64; omega, fun d => by simp [List.getD], by omega⟩
theorem ev_eq {α : Type} {f g : Nat → Option α} {r : α} (h : f = g) (k : Ev g r) : Ev f r := h ▸ k
theorem laws_eqPlace_rfl (a b : Int) : laws_eqPlace.f a b a b = some true := by simp [laws_eqPlace.f]
def pHead (h : Int) : Bool := decide (0 ≤ h) && decide (h ≤ 3)
theorem spec_IsHeading_eq (h : Int) : spec_IsHeading.f h = some (pHead h) := by
  unfold spec_IsHeading.f pHead; split <;> simp <;> omega
theorem impl_IsHeading_eq (h : Int) : impl_IsHeading.f h = some (pHead h) := by
  simp only [impl_IsHeading.f, impl_isWithin_eq, Option.bind_some, pHead]
def pMeas (x : Int) : Bool := decide (-4096 ≤ x) && decide (x ≤ 4096)
theorem spec_IsMeasure_eq (x : Int) : spec_IsMeasure.f x = some (pMeas x) := by
  unfold spec_IsMeasure.f pMeas; split <;> simp <;> omega
def pMeas' (x : Int) : Bool := decide (-4096 ≤ x) && decide (x ≤ 4096)
theorem impl_IsMeasure_eq (x : Int) : impl_IsMeasure.f x = some (pMeas' x) := by
  simp only [impl_IsMeasure.f, impl_isWithin_eq, Option.bind_some, pMeas']
def pPlace (x y : Int) : Bool := (decide (-4096 ≤ x) && decide (x ≤ 4096)) && (decide (-4096 ≤ y) && decide (y ≤ 4096))
theorem spec_IsPlace_eq (x y : Int) : spec_IsPlace.f x y = some (pPlace x y) := by
  simp only [spec_IsPlace.f, spec_IsMeasure_eq, Option.bind_some, pPlace, pMeas]
  cases (decide (-4096 ≤ x) && decide (x ≤ 4096)) <;> simp
theorem impl_IsPlace_eq (x y : Int) : impl_IsPlace.f x y = some (pPlace x y) := by
  simp only [impl_IsPlace.f, impl_IsMeasure_eq, Option.bind_some, pPlace, pMeas']
  cases (decide (-4096 ≤ x) && decide (x ≤ 4096)) <;> simp
def nmC (b : Int) (i : Nat) : Bool := (decide (97 ≤ b) && decide (b ≤ 122)) || ((decide (48 ≤ b) && decide (b ≤ 57)) && !decide (i = 0))
def nmR (a : ByteArray) : Nat → Nat → Bool
  | 0, _ => decide (1 ≤ (a.size : Int)) && decide ((a.size : Int) ≤ 8)
  | d + 1, i => nmC (bt a (i : Int)) i && nmR a d (i + 1)
def pName (a : ByteArray) : Bool := nmR a a.size 0
theorem spec_IsName_l0 (a : ByteArray) (ha : a.size ≤ 9223372036854775807) : ∀ (d i : Nat), i + d = a.size → Ev (fun k => spec_IsName.l0 k a (i : Int)) (nmR a d i) := by
  intro d
  induction d with
  | zero =>
    intro i h
    refine ev_succ ?_
    simp only [spec_IsName.l0, if_neg (show ¬ ((i : Int) < (a.size : Int)) by omega), nmR]
    refine ev_ite (fun c => ?_) (fun c => ?_)
    · rw [decide_eq_true (show 1 ≤ (a.size : Int) by omega), Bool.true_and]; exact Ev.now _
    · rw [decide_eq_false (show ¬ 1 ≤ (a.size : Int) by omega), Bool.false_and]; exact Ev.now _
  | succ d ih =>
    intro i h
    have ih' := ih (i + 1) (by omega)
    refine ev_succ ?_
    simp only [spec_IsName.l0, if_pos (show ((i : Int) < (a.size : Int)) by omega), if_pos (nn _), nmR]
    rw [show wrap64 ((i : Int) + 1) = ((i + 1 : Nat) : Int) by unfold wrap64; omega]
    generalize bt a (i : Int) = b
    have hi : ((i : Int) = 0) = (i = 0) := by simp
    simp only [nmC, hi]
    by_cases h1 : 97 ≤ b <;> by_cases h2 : b ≤ 122 <;> by_cases h3 : 48 ≤ b <;> by_cases h4 : b ≤ 57 <;> by_cases h5 : i = 0 <;> first | (exfalso; omega) | skip
    all_goals simp only [ge_iff_le, h1, h2, h3, h4, h5, decide_true, decide_false, Bool.true_and, Bool.false_and, Bool.and_true, Bool.and_false, Bool.or_true, Bool.true_or, Bool.or_false, Bool.false_or, Bool.not_true, Bool.not_false, if_true, if_false]
    all_goals first | exact Ev.now _ | exact ih' | (subst h5; exact ih')
theorem spec_IsName_ev (a : ByteArray) (ha : a.size ≤ 9223372036854775807) : Ev (fun k => spec_IsName.f k a) (pName a) := spec_IsName_l0 a ha a.size 0 (by omega)
theorem impl_IsName_l0 (a : ByteArray) (ha : a.size ≤ 9223372036854775807) : ∀ (d i : Nat), i + d = a.size → Ev (fun k => impl_IsName.l0 k a (a.size : Int) (i : Int)) (nmR a d i) := by
  intro d
  induction d with
  | zero =>
    intro i h
    refine ev_succ ?_
    simp only [impl_IsName.l0, if_neg (show ¬ ((i : Int) < (a.size : Int)) by omega), nmR, impl_isWithin_eq, Option.bind_some]
    exact Ev.now _
  | succ d ih =>
    intro i h
    have ih' := ih (i + 1) (by omega)
    refine ev_succ ?_
    simp only [impl_IsName.l0, if_pos (show ((i : Int) < (a.size : Int)) by omega), if_pos (nn _), nmR]
    rw [show wrap64 ((i : Int) + 1) = ((i + 1 : Nat) : Int) by unfold wrap64; omega]
    generalize bt a (i : Int) = b
    have hi : ((i : Int) = 0) = (i = 0) := by simp
    simp only [nmC, hi, gt_iff_lt, ← Int.not_le]
    by_cases h1 : 97 ≤ b <;> by_cases h2 : b ≤ 122 <;> by_cases h3 : 48 ≤ b <;> by_cases h4 : b ≤ 57 <;> by_cases h5 : i = 0 <;> first | (exfalso; omega) | skip
    all_goals simp only [ge_iff_le, h1, h2, h3, h4, h5, not_true_eq_false, not_false_eq_true, decide_true, decide_false, Bool.true_and, Bool.false_and, Bool.and_true, Bool.and_false, Bool.or_true, Bool.true_or, Bool.or_false, Bool.false_or, Bool.not_true, Bool.not_false, if_true, if_false]
    all_goals first | exact Ev.now _ | exact ih' | (subst h5; exact ih')
theorem impl_IsName_ev (a : ByteArray) (ha : a.size ≤ 9223372036854775807) : Ev (fun k => impl_IsName.f k a) (pName a) := impl_IsName_l0 a ha a.size 0 (by omega)
def i16 (a lo hi : Int) : Bool := decide (lo ≤ a) && decide (a ≤ hi)
def pJet (a b c d e : Int) : Bool := i16 a (-1024) 1024 && (i16 b (-1024) 1024 && (pHead c && (i16 d 0 16 && i16 e 1 32)))
def pLineOk (n l : ByteArray) : Bool := pName l && !(l.toList == n.toList)
/-- IsDevice -/
def pDevice (n : ByteArray) (k : Int) (l : ByteArray) (a b c d e : Int) : Bool :=
  pName n && (if k = 1 then pSup e && (l.toList == ([] : List UInt8) && ((a == 0 && (b == 0)) && (c == 0 && (d == 0))))
    else if k = 2 then pLineOk n l && (pJet a b c d 1 && i16 e 0 32)
    else if k = 3 then pLineOk n l && (pPlace a b && (c == 0 && (d == 0 && (e == 0)))) else false)
theorem ev_and {c : Bool} {f : Nat → Option Bool} {b : Bool} (h : c = true → Ev f b) : Ev (fun k => if c = true then f k else some false) (c && b) := by
  cases c
  · simp only [Bool.false_eq_true, if_false, Bool.false_and]; exact Ev.now _
  · simp only [if_true, Bool.true_and]; exact h rfl
theorem so_and (c b : Bool) : (if c = true then some b else some false) = some (c && b) := by cases c <;> rfl
theorem spec_IsJet_eq (a b c d e : Int) : spec_IsJet.f a b c d e = some (pJet a b c d e) := by
  simp only [spec_IsJet.f, spec_l1In_eq, spec_IsHeading_eq, Option.bind_some, pJet, i16, so_and]
theorem spec_IsDevice_ev (n : ByteArray) (k : Int) (l : ByteArray) (a b c d e : Int) (hn : n.size ≤ 9223372036854775807) (hl : l.size ≤ 9223372036854775807) : Ev (fun q => spec_IsDevice.f q n k l a b c d e) (pDevice n k l a b c d e) := by
  have j : ∀ x : Bool, x = pLineOk n l → Ev (fun q => spec_IsDevice.j0 q x n k l a b c d e) (pDevice n k l a b c d e) := by
    intro x hx
    refine ev_succ ?_
    simp only [spec_IsDevice.j0, spec_l6Jet.f, spec_IsJet_eq, spec_l5Supply_eq, spec_IsPlace_eq, spec_l1In_eq, Option.bind_some, so_and]
    refine Ev.bind (spec_IsName_ev n hn) ?_
    rw [pDevice, hx]
    refine ev_and (fun _ => ?_)
    refine ev_ite (fun h => ?_) (fun h => ?_)
    · rw [if_pos h]; exact Ev.now _
    · rw [if_neg h]
      refine ev_ite (fun h => ?_) (fun h => ?_)
      · rw [if_pos h]; exact Ev.now _
      · rw [if_neg h]
        refine ev_ite (fun h => ?_) (fun h => ?_)
        · rw [if_pos h]; exact Ev.now _
        · rw [if_neg h]; exact Ev.now _
  unfold spec_IsDevice.f
  refine Ev.bind (spec_IsName_ev l hl) ?_
  refine ev_ite (fun h => ?_) (fun h => ?_)
  · refine j _ ?_
    rw [pLineOk, h, Bool.true_and]; rfl
  · refine j _ ?_
    rw [pLineOk, Bool.eq_false_iff.2 h, Bool.false_and]
theorem impl_IsJet_eq (a b c d e : Int) : impl_IsJet.f a b c d e = some (pJet a b c d e) := by
  simp only [impl_IsJet.f, impl_isWithin_eq, impl_IsHeading_eq, Option.bind_some, pJet, i16, so_and]
theorem impl_IsDevice_ev (n : ByteArray) (k : Int) (l : ByteArray) (a b c d e : Int) (hn : n.size ≤ 9223372036854775807) (hl : l.size ≤ 9223372036854775807) : Ev (fun q => impl_IsDevice.f q n k l a b c d e) (pDevice n k l a b c d e) := by
  simp only [impl_IsDevice.f, impl_IsJet_eq, impl_isSupply_eq, impl_IsPlace_eq, impl_isWithin_eq, Option.bind_some, so_and]
  refine Ev.bind (impl_IsName_ev n hn) ?_
  rw [pDevice]
  refine ev_and (fun _ => ?_)
  refine ev_ite (fun h => ?_) (fun h => ?_)
  · rw [if_pos h, Bool.and_comm]; exact Ev.now _
  · rw [if_neg h]
    refine ev_ite (fun h => ?_) (fun h => ?_)
    · rw [if_pos h]
      refine Ev.bind (impl_IsName_ev l hl) ?_
      rw [pLineOk, Bool.and_assoc]
      refine ev_and (fun _ => ?_)
      by_cases e : l.toList = n.toList
      · simp only [if_pos e, e, beq_self_eq_true, Bool.not_true, Bool.false_and]; exact Ev.now _
      · simp only [if_neg e, beq_eq_false_iff_ne.2 e, Bool.not_false, Bool.true_and]; exact Ev.now _
    · rw [if_neg h]
      refine ev_ite (fun h => ?_) (fun h => ?_)
      · rw [if_pos h]
        rw [show (pLineOk n l && (pPlace a b && (c == 0 && (d == 0 && (e == 0))))) = ((c == 0 && (d == 0 && (e == 0))) && (pLineOk n l && pPlace a b)) by cases pLineOk n l <;> cases pPlace a b <;> cases (c == 0 && (d == 0 && (e == 0))) <;> rfl]
        refine ev_and (fun _ => ?_)
        refine Ev.bind (impl_IsName_ev l hl) ?_
        rw [pLineOk, Bool.and_assoc]
        refine ev_and (fun _ => ?_)
        by_cases e : l.toList = n.toList
        · simp only [if_pos e, e, beq_self_eq_true, Bool.not_true, Bool.false_and]; exact Ev.now _
        · simp only [if_neg e, beq_eq_false_iff_ne.2 e, Bool.not_false, Bool.true_and]; exact Ev.now _
      · rw [if_neg h]; exact Ev.now _
theorem laws_eqDevice_rfl (n : ByteArray) (k : Int) (l : ByteArray) (a b c d e : Int) : laws_eqDevice.f n k l a b c d e n k l a b c d e = some true := by simp [laws_eqDevice.f, laws_eqPlace_rfl]
/-- A number in decimal digits. -/
def pNum (n : Int) : ByteArray := ⟨(Go.Lib.itoa n).toArray⟩
theorem decDigits_len : ∀ (u : Nat), (Go.Lib.decDigits u).length ≤ u + 1 := by
  intro u
  induction u using Nat.strongRecOn with
  | ind u ih =>
    rw [Go.Lib.decDigits]
    split
    · simp
    · rw [List.length_append]
      have := ih (u / 10) (by omega)
      simp only [List.length_cons, List.length_nil]
      omega
theorem pNum_nn (n : Nat) : pNum (n : Int) = ⟨(Go.Lib.decDigits n).toArray⟩ := by
  unfold pNum Go.Lib.itoa
  rw [if_neg (by omega), Int.toNat_natCast]
theorem pNum_size (n : Nat) : (pNum (n : Int)).size ≤ n + 1 := by
  rw [pNum_nn]
  show (Go.Lib.decDigits n).toArray.size ≤ n + 1
  rw [List.size_toArray]; exact decDigits_len n
theorem strOfNums_one (m : Nat) : strOfNums [(m : Int)] = ⟨#[UInt8.ofNat m]⟩ := by simp [strOfNums]
theorem pNum_small {n : Nat} (h : n < 10) : pNum (n : Int) = ⟨#[UInt8.ofNat (48 + n)]⟩ := by
  rw [pNum_nn, Go.Lib.decDigits, dif_pos h]
theorem pNum_step {n : Nat} (h : ¬ n < 10) : pNum (n : Int) = pNum ((n / 10 : Nat) : Int) ++ ⟨#[UInt8.ofNat (48 + n % 10)]⟩ := by
  rw [pNum_nn, pNum_nn, Go.Lib.decDigits, dif_neg h]
  apply ByteArray.ext
  simp [ByteArray.data_append]
theorem tdivn (n m : Nat) : Int.tdiv (n : Int) (m : Int) = ((n / m : Nat) : Int) := by rw [Int.tdiv_eq_ediv_of_nonneg (by omega)]; rfl
theorem tmodn (n m : Nat) : Int.tmod (n : Int) (m : Int) = ((n % m : Nat) : Int) := by rw [Int.tmod_eq_emod_of_nonneg (by omega)]; rfl
theorem pNum_sz (t : Int) (h0 : 0 ≤ t) (h1 : t ≤ 100000) : (pNum t).size ≤ 100001 := by
  obtain ⟨m, rfl⟩ := Int.eq_ofNat_of_zero_le h0
  have := pNum_size m
  omega
theorem impl_FormatNumber_eq (n : Int) (h0 : -9223372036854775808 ≤ n) (h1 : n ≤ 9223372036854775807) : impl_FormatNumber.f n = some (pNum n) := by
  unfold impl_FormatNumber.f strconv_Itoa.f
  rw [if_pos ⟨h0, h1⟩]; rfl
theorem impl_FormatNumber_ev (n : Int) (h0 : -9223372036854775808 ≤ n) (h1 : n ≤ 9223372036854775807) : Ev (fun _ => impl_FormatNumber.f n) (pNum n) := by
  rw [impl_FormatNumber_eq n h0 h1]; exact Ev.now _
theorem spec_FormatNumber_ev : ∀ (n : Nat), n ≤ 1000000 → Ev (fun k => spec_FormatNumber.f k (n : Int)) (pNum (n : Int)) := by
  intro n
  induction n using Nat.strongRecOn with
  | ind n ih =>
    intro hn
    refine ev_succ ?_
    simp only [spec_FormatNumber.f, if_neg (show ¬ (n : Int) = -9223372036854775808 by omega), if_neg (show ¬ (n : Int) < 0 by omega), Option.bind_some]
    have e1 : (wrap64 (48 + Int.tmod (n : Int) 10)) % 256 = ((48 + n % 10 : Nat) : Int) := by
      rw [show (10 : Int) = ((10 : Nat) : Int) from rfl, tmodn]; unfold wrap64; omega
    have e2 : wrap64 (Int.tdiv (n : Int) 10) = ((n / 10 : Nat) : Int) := by
      rw [show (10 : Int) = ((10 : Nat) : Int) from rfl, tdivn]; unfold wrap64; omega
    rw [e1, e2, strOfNums_one]
    refine ev_ite (fun c => ?_) (fun c => ?_)
    · refine Ev.bind (ih (n / 10) (by omega) (by omega)) ?_
      have hs := pNum_size (n / 10)
      have h1 : (⟨#[UInt8.ofNat (48 + n % 10)]⟩ : ByteArray).size = 1 := rfl
      rw [← pNum_step (show ¬ n < 10 by omega)]
      exact ev_ite (fun _ => Ev.now _) (fun c2 => absurd (show _ by omega) c2)
    · rw [pNum_small (show n < 10 by omega), show n % 10 = n by omega]
      exact Ev.now _
/-- What stands behind the point: eighths. -/
def fracL : List ByteArray := [(⟨#[]⟩ : ByteArray), (⟨#[46, 49, 50, 53]⟩ : ByteArray), (⟨#[46, 50, 53]⟩ : ByteArray), (⟨#[46, 51, 55, 53]⟩ : ByteArray), (⟨#[46, 53]⟩ : ByteArray), (⟨#[46, 54, 50, 53]⟩ : ByteArray), (⟨#[46, 55, 53]⟩ : ByteArray), (⟨#[46, 56, 55, 53]⟩ : ByteArray)]
def fracT (r : Nat) : ByteArray := rdOf ByteArray.empty fracL (r : Int)
def sgnT (x : Int) : ByteArray := if x < 0 then ⟨#[45]⟩ else ⟨#[]⟩
/-- FormatMeasure -/
def pFmt (x : Int) : ByteArray := if -4096 ≤ x ∧ x ≤ 4096 then sgnT x ++ pNum ((x.natAbs / 8 : Nat) : Int) ++ fracT (x.natAbs % 8) else ⟨#[]⟩
theorem fracT_size (r : Nat) (h : r < 8) : (fracT r).size ≤ 4 := by
  have : r = 0 ∨ r = 1 ∨ r = 2 ∨ r = 3 ∨ r = 4 ∨ r = 5 ∨ r = 6 ∨ r = 7 := by omega
  rcases this with rfl | rfl | rfl | rfl | rfl | rfl | rfl | rfl <;> decide
theorem sgnT_size (x : Int) : (sgnT x).size ≤ 1 := by
  unfold sgnT; split <;> decide
theorem pFmt_size (x : Int) : (pFmt x).size ≤ 1000 := by
  unfold pFmt
  split
  · rename_i h
    rw [ByteArray.size_append, ByteArray.size_append]
    have h1 := sgnT_size x
    have h2 := pNum_size (x.natAbs / 8)
    have h3 := fracT_size (x.natAbs % 8) (by omega)
    omega
  · show 0 ≤ 1000
    omega
theorem trim_frac (r : Nat) (h1 : 1 ≤ r) (h7 : r ≤ 7) : ∃ s t, pNum ((1000 + r * 125 : Nat) : Int) = s ∧ s.size = 4 ∧ strings_TrimRight.f (s.extract 1 s.size) (⟨#[48]⟩ : ByteArray) = some t ∧ t.size ≤ 3 ∧ (⟨#[46]⟩ : ByteArray) ++ t = fracT r := by
  have : r = 1 ∨ r = 2 ∨ r = 3 ∨ r = 4 ∨ r = 5 ∨ r = 6 ∨ r = 7 := by omega
  rcases this with rfl | rfl | rfl | rfl | rfl | rfl | rfl
  · exact ⟨⟨#[49, 49, 50, 53]⟩, ⟨#[49, 50, 53]⟩, by rw [pNum_nn]; simp [Go.Lib.decDigits], rfl, rfl, by decide, rfl⟩
  · exact ⟨⟨#[49, 50, 53, 48]⟩, ⟨#[50, 53]⟩, by rw [pNum_nn]; simp [Go.Lib.decDigits], rfl, rfl, by decide, rfl⟩
  · exact ⟨⟨#[49, 51, 55, 53]⟩, ⟨#[51, 55, 53]⟩, by rw [pNum_nn]; simp [Go.Lib.decDigits], rfl, rfl, by decide, rfl⟩
  · exact ⟨⟨#[49, 53, 48, 48]⟩, ⟨#[53]⟩, by rw [pNum_nn]; simp [Go.Lib.decDigits], rfl, rfl, by decide, rfl⟩
  · exact ⟨⟨#[49, 54, 50, 53]⟩, ⟨#[54, 50, 53]⟩, by rw [pNum_nn]; simp [Go.Lib.decDigits], rfl, rfl, by decide, rfl⟩
  · exact ⟨⟨#[49, 55, 53, 48]⟩, ⟨#[55, 53]⟩, by rw [pNum_nn]; simp [Go.Lib.decDigits], rfl, rfl, by decide, rfl⟩
  · exact ⟨⟨#[49, 56, 55, 53]⟩, ⟨#[56, 55, 53]⟩, by rw [pNum_nn]; simp [Go.Lib.decDigits], rfl, rfl, by decide, rfl⟩
theorem impl_FormatMeasure_j0 (y : Nat) (hy : y ≤ 4096) (s : ByteArray) (hs : s.size ≤ 1) : Ev (fun k => impl_FormatMeasure.j0 k (y : Int) s) (s ++ pNum ((y / 8 : Nat) : Int) ++ fracT (y % 8)) := by
  have e1 : wrap64 (Int.tdiv (y : Int) 8) = ((y / 8 : Nat) : Int) := by
    rw [show (8 : Int) = ((8 : Nat) : Int) from rfl, tdivn]; unfold wrap64; omega
  have e2 : Int.tmod (y : Int) 8 = ((y % 8 : Nat) : Int) := by rw [show (8 : Int) = ((8 : Nat) : Int) from rfl, tmodn]
  have e3 : wrap64 (1000 + wrap64 (((y % 8 : Nat) : Int) * 125)) = ((1000 + (y % 8) * 125 : Nat) : Int) := by unfold wrap64; omega
  have hn := pNum_size (y / 8)
  refine ev_succ ?_
  simp only [impl_FormatMeasure.j0, e1, e2, e3]
  rw [impl_FormatNumber_eq _ (by omega) (by omega), Option.bind_some]
  refine ev_ite (fun _ => ?_) (fun c => absurd (show _ by omega) c)
  refine ev_ite (fun c => ?_) (fun c => ?_)
  · obtain ⟨q, t, hq, hqs, ht, hts, hf⟩ := trim_frac (y % 8) (by omega) (by omega)
    rw [impl_FormatNumber_eq _ (by omega) (by omega), Option.bind_some, hq]
    refine ev_ite (fun _ => ?_) (fun c => absurd (show _ by omega) c)
    rw [ht, Option.bind_some, hf]
    have h4 := fracT_size (y % 8) (by omega)
    have h5 : (s ++ pNum ((y / 8 : Nat) : Int)).size = s.size + (pNum ((y / 8 : Nat) : Int)).size := ByteArray.size_append ..
    refine ev_ite (fun _ => ?_) (fun c => absurd (show _ by omega) c)
    exact ev_ite (fun _ => Ev.now _) (fun c => absurd (show _ by omega) c)
  · have h0 : y % 8 = 0 := by omega
    rw [h0]
    have : fracT 0 = (⟨#[]⟩ : ByteArray) := rfl
    rw [this]
    have h6 : ∀ z : ByteArray, z ++ (⟨#[]⟩ : ByteArray) = z := fun z => by apply ByteArray.ext; simp [ByteArray.data_append]
    rw [h6]
    exact Ev.now _
theorem impl_FormatMeasure_ev (x : Int) : Ev (fun k => impl_FormatMeasure.f k x) (pFmt x) := by
  simp only [impl_FormatMeasure.f, impl_IsMeasure_eq, Option.bind_some, pMeas', pFmt]
  refine ev_ite (fun h => ?_) (fun h => ?_)
  · simp only [Bool.and_eq_true, decide_eq_true_eq] at h
    rw [if_pos h]
    unfold sgnT
    refine ev_ite (fun c => ?_) (fun c => ?_)
    · rw [if_pos c, show wrap64 (-x) = ((x.natAbs : Nat) : Int) by unfold wrap64; omega]
      exact impl_FormatMeasure_j0 x.natAbs (by omega) (⟨#[45]⟩ : ByteArray) (by decide)
    · rw [if_neg c]
      have := impl_FormatMeasure_j0 x.natAbs (by omega) (⟨#[]⟩ : ByteArray) (by decide)
      rw [show ((x.natAbs : Nat) : Int) = x by omega] at this
      exact this
  · have h' : ¬ (-4096 ≤ x ∧ x ≤ 4096) := by simpa using h
    rw [if_neg h']; exact Ev.now _
theorem spec_FormatMeasure_ev (x : Int) : Ev (fun k => spec_FormatMeasure.f k x) (pFmt x) := by
  have key : ∀ (y : Nat) (s : ByteArray), y ≤ 4096 → s.size ≤ 1 → Ev (fun k => (spec_FormatNumber.f k ((y / 8 : Nat) : Int)).bind fun t133 => (if s.size + t133.size ≤ 9223372036854775807 then ((some fracL).bind fun y134 => (if 0 ≤ ((y % 8 : Nat) : Int) then (if ((y % 8 : Nat) : Int) < (y134.length : Int) then (if (s ++ t133).size + (rdOf ByteArray.empty y134 ((y % 8 : Nat) : Int)).size ≤ 9223372036854775807 then (some ((s ++ t133) ++ (rdOf ByteArray.empty y134 ((y % 8 : Nat) : Int)))) else (none)) else (none)) else (none))) else (none))) (s ++ pNum ((y / 8 : Nat) : Int) ++ fracT (y % 8)) := by
    intro y s hy hs
    have hn := pNum_size (y / 8)
    have h4 := fracT_size (y % 8) (by omega)
    have h5 : (s ++ pNum ((y / 8 : Nat) : Int)).size = s.size + (pNum ((y / 8 : Nat) : Int)).size := ByteArray.size_append ..
    refine Ev.bind (spec_FormatNumber_ev (y / 8) (by omega)) ?_
    refine ev_ite (fun _ => ?_) (fun c => absurd (show _ by omega) c)
    simp only [Option.bind_some]
    refine ev_ite (fun _ => ?_) (fun c => absurd (show _ by omega) c)
    refine ev_ite (fun _ => ?_) (fun c => absurd (show ((y % 8 : Nat) : Int) < (fracL.length : Int) by show _ < (8 : Int); omega) c)
    change Ev (fun _ => if (s ++ pNum ((y / 8 : Nat) : Int)).size + (fracT (y % 8)).size ≤ 9223372036854775807 then some (s ++ pNum ((y / 8 : Nat) : Int) ++ fracT (y % 8)) else none) _
    exact ev_ite (fun _ => Ev.now _) (fun c => absurd (show _ by omega) c)
  simp only [spec_FormatMeasure.f, spec_IsMeasure_eq, Option.bind_some, pMeas, pFmt]
  refine ev_ite (fun h => ?_) (fun h => ?_)
  · simp only [Bool.and_eq_true, decide_eq_true_eq] at h
    rw [if_pos h]
    unfold sgnT
    refine ev_ite (fun c => ?_) (fun c => ?_)
    · rw [if_pos c, show wrap64 (-x) = ((x.natAbs : Nat) : Int) by unfold wrap64; omega]
      have e1 : wrap64 (Int.tdiv ((x.natAbs : Nat) : Int) 8) = ((x.natAbs / 8 : Nat) : Int) := by
        rw [show (8 : Int) = ((8 : Nat) : Int) from rfl, tdivn]; unfold wrap64; omega
      have e2 : Int.tmod ((x.natAbs : Nat) : Int) 8 = ((x.natAbs % 8 : Nat) : Int) := by rw [show (8 : Int) = ((8 : Nat) : Int) from rfl, tmodn]
      rw [e1, e2]
      exact key x.natAbs (⟨#[45]⟩ : ByteArray) (by omega) (by decide)
    · rw [if_neg c]
      have hx : ((x.natAbs : Nat) : Int) = x := by omega
      have e1 : wrap64 (Int.tdiv x 8) = ((x.natAbs / 8 : Nat) : Int) := by
        rw [← hx, show (8 : Int) = ((8 : Nat) : Int) from rfl, tdivn]; unfold wrap64; omega
      have e2 : Int.tmod x 8 = ((x.natAbs % 8 : Nat) : Int) := by rw [← hx, show (8 : Int) = ((8 : Nat) : Int) from rfl, tmodn]; rfl
      rw [e1, e2]
      exact key x.natAbs (⟨#[]⟩ : ByteArray) (by omega) (by decide)
  · have h' : ¬ (-4096 ≤ x ∧ x ≤ 4096) := by simpa using h
    rw [if_neg h']; exact Ev.now _
theorem nmR_size {a : ByteArray} : ∀ (d i : Nat), nmR a d i = true → a.size ≤ 8
  | 0, i, h => by
    unfold nmR at h
    simp only [Bool.and_eq_true, decide_eq_true_eq] at h
    omega
  | d + 1, i, h => by
    unfold nmR at h
    rw [Bool.and_eq_true] at h
    exact nmR_size d (i + 1) h.2
theorem pName_size {a : ByteArray} (h : pName a = true) : a.size ≤ 8 := nmR_size _ _ h
/-- FormatPlace -/
def pPlaceT (x y : Int) : ByteArray := if pPlace x y = true then ((pFmt x ++ (if y < 0 then (⟨#[]⟩ : ByteArray) else ⟨#[43]⟩)) ++ pFmt y) ++ (⟨#[105]⟩ : ByteArray) else ⟨#[]⟩
theorem pPlaceT_size (x y : Int) : (pPlaceT x y).size ≤ 3000 := by
  unfold pPlaceT
  have h1 := pFmt_size x
  have h2 := pFmt_size y
  have z1 : (⟨#[105]⟩ : ByteArray).size = 1 := rfl
  have z2 : (⟨#[43]⟩ : ByteArray).size = 1 := rfl
  have z0 : (⟨#[]⟩ : ByteArray).size = 0 := rfl
  split
  · split <;> simp only [ByteArray.size_append] <;> omega
  · omega
theorem ap_nil (z : ByteArray) : z ++ (⟨#[]⟩ : ByteArray) = z := by apply ByteArray.ext; simp [ByteArray.data_append]
theorem impl_FormatPlace_ev (x y : Int) : Ev (fun k => impl_FormatPlace.f k x y) (pPlaceT x y) := by
  have h1 := pFmt_size x
  have h2 := pFmt_size y
  have z1 : (⟨#[105]⟩ : ByteArray).size = 1 := rfl
  have z2 : (⟨#[43]⟩ : ByteArray).size = 1 := rfl
  have z0 : (⟨#[]⟩ : ByteArray).size = 0 := rfl
  simp only [impl_FormatPlace.f, impl_IsPlace_eq, Option.bind_some, pPlaceT]
  refine ev_ite (fun h => ?_) (fun h => ?_)
  · rw [if_pos h]
    refine ev_ite (fun c => ?_) (fun c => ?_)
    · rw [if_pos c]
      refine Ev.bind (impl_FormatMeasure_ev x) ?_
      refine ev_ite (fun _ => ?_) (fun c => absurd (show _ by omega) c)
      refine Ev.bind (impl_FormatMeasure_ev y) ?_
      refine ev_ite (fun _ => ?_) (fun c => absurd (show _ by simp only [ByteArray.size_append]; omega) c)
      exact ev_ite (fun _ => Ev.now _) (fun c => absurd (show _ by simp only [ByteArray.size_append]; omega) c)
    · rw [if_neg c]
      refine Ev.bind (impl_FormatMeasure_ev x) ?_
      refine ev_ite (fun _ => ?_) (fun c => absurd (show _ by omega) c)
      refine Ev.bind (impl_FormatMeasure_ev y) ?_
      refine ev_ite (fun _ => ?_) (fun c => absurd (show _ by simp only [ByteArray.size_append]; omega) c)
      exact ev_ite (fun _ => Ev.now _) (fun c => absurd (show _ by simp only [ByteArray.size_append]; omega) c)
  · rw [if_neg h]; exact Ev.now _
theorem spec_FormatPlace_ev (x y : Int) : Ev (fun k => spec_FormatPlace.f k x y) (pPlaceT x y) := by
  have h1 := pFmt_size x
  have h2 := pFmt_size y
  have z1 : (⟨#[105]⟩ : ByteArray).size = 1 := rfl
  have z2 : (⟨#[43]⟩ : ByteArray).size = 1 := rfl
  simp only [spec_FormatPlace.f, spec_IsPlace_eq, Option.bind_some, pPlaceT]
  refine ev_ite (fun h => ?_) (fun h => ?_)
  · rw [if_pos h]
    refine Ev.bind (spec_FormatMeasure_ev x) ?_
    refine ev_ite (fun c => ?_) (fun c => ?_)
    · rw [if_neg (show ¬ y < 0 by omega)]
      refine ev_ite (fun _ => ?_) (fun c => absurd (show _ by omega) c)
      refine Ev.bind (spec_FormatMeasure_ev y) ?_
      refine ev_ite (fun _ => ?_) (fun c => absurd (show _ by simp only [ByteArray.size_append]; omega) c)
      exact ev_ite (fun _ => Ev.now _) (fun c => absurd (show _ by simp only [ByteArray.size_append]; omega) c)
    · rw [if_pos (show y < 0 by omega), ap_nil]
      refine Ev.bind (spec_FormatMeasure_ev y) ?_
      refine ev_ite (fun _ => ?_) (fun c => absurd (show _ by omega) c)
      exact ev_ite (fun _ => Ev.now _) (fun c => absurd (show _ by simp only [ByteArray.size_append]; omega) c)
  · rw [if_neg h]; exact Ev.now _
def tPump : ByteArray := ⟨#[112, 117, 109, 112, 32]⟩
def tNozzle : ByteArray := ⟨#[110, 111, 122, 122, 108, 101, 32]⟩
def tLamp : ByteArray := ⟨#[108, 97, 109, 112, 32]⟩
def tMost : ByteArray := ⟨#[32, 109, 111, 115, 116, 32]⟩
def tOn : ByteArray := ⟨#[32, 111, 110, 32]⟩
def tAt : ByteArray := ⟨#[32, 97, 116, 32]⟩
def tHead : ByteArray := ⟨#[32, 104, 101, 97, 100, 105, 110, 103, 32]⟩
def tTilt : ByteArray := ⟨#[32, 116, 105, 108, 116, 32]⟩
theorem tz : tPump.size = 5 ∧ tNozzle.size = 7 ∧ tLamp.size = 5 ∧ tMost.size = 6 ∧ tOn.size = 4 ∧ tAt.size = 4 ∧ tHead.size = 9 ∧ tTilt.size = 6 := ⟨rfl, rfl, rfl, rfl, rfl, rfl, rfl, rfl⟩
theorem tPumpz : tPump = ⟨#[112, 117, 109, 112, 32]⟩ := rfl
theorem tNz : tNozzle = ⟨#[110, 111, 122, 122, 108, 101, 32]⟩ := rfl
theorem tLampz : tLamp = ⟨#[108, 97, 109, 112, 32]⟩ := rfl
theorem tMostz : tMost = ⟨#[32, 109, 111, 115, 116, 32]⟩ := rfl
theorem tOnz : tOn = ⟨#[32, 111, 110, 32]⟩ := rfl
theorem tAtz : tAt = ⟨#[32, 97, 116, 32]⟩ := rfl
theorem tHeadz : tHead = ⟨#[32, 104, 101, 97, 100, 105, 110, 103, 32]⟩ := rfl
theorem tTiltz : tTilt = ⟨#[32, 116, 105, 108, 116, 32]⟩ := rfl
/-- FormatDevice -/
def pDevT (n : ByteArray) (kd : Int) (ln : ByteArray) (x y hd ti mo : Int) : ByteArray :=
  if pDevice n kd ln x y hd ti mo = true then
    (if kd = 1 then ((tPump ++ n) ++ tMost) ++ pFmt mo
     else if kd = 2 then ((((((((((tNozzle ++ n) ++ tOn) ++ ln) ++ tAt) ++ pPlaceT x y) ++ tHead) ++ pNum hd) ++ tTilt) ++ pFmt ti) ++ tMost) ++ pFmt mo
     else ((((tLamp ++ n) ++ tOn) ++ ln) ++ tAt) ++ pPlaceT x y)
  else ⟨#[]⟩
theorem pDev_num {n : ByteArray} {kd : Int} {ln : ByteArray} {x y hd ti mo : Int} (h : pDevice n kd ln x y hd ti mo = true) : n.size ≤ 8 ∧ (¬ kd = 1 → ln.size ≤ 8) ∧ (kd = 2 → 0 ≤ hd ∧ hd ≤ 3) := by
  unfold pDevice at h
  rw [Bool.and_eq_true] at h
  obtain ⟨h1, h2⟩ := h
  refine ⟨pName_size h1, fun k1 => ?_, fun k2 => ?_⟩
  · rw [if_neg k1] at h2
    by_cases k2 : kd = 2
    · rw [if_pos k2] at h2
      simp only [pLineOk, Bool.and_eq_true] at h2
      exact pName_size h2.1.1
    · rw [if_neg k2] at h2
      by_cases k3 : kd = 3
      · rw [if_pos k3] at h2
        simp only [pLineOk, Bool.and_eq_true] at h2
        exact pName_size h2.1.1
      · rw [if_neg k3] at h2; cases h2
  · rw [if_neg (by omega), if_pos k2] at h2
    have h3 := h2
    simp only [pJet, pHead, Bool.and_eq_true, decide_eq_true_eq] at h3
    omega
theorem impl_FormatDevice_ev (n : ByteArray) (kd : Int) (ln : ByteArray) (x y hd ti mo : Int) (hn : n.size ≤ 9223372036854775807) (hl : ln.size ≤ 9223372036854775807) : Ev (fun k => impl_FormatDevice.f k n kd ln x y hd ti mo) (pDevT n kd ln x y hd ti mo) := by
  unfold impl_FormatDevice.f pDevT
  refine Ev.bind (impl_IsDevice_ev n kd ln x y hd ti mo hn hl) ?_
  refine ev_ite (fun h => ?_) (fun h => ?_)
  · rw [if_pos h]
    obtain ⟨s1, s2, s3⟩ := pDev_num h
    have hp := pPlaceT_size x y
    have hm := pFmt_size mo
    have ht := pFmt_size ti
    obtain ⟨z1, z2, z3, z4, z5, z6, z7, z8⟩ := tz
    refine ev_ite (fun k1 => ?_) (fun k1 => ?_)
    · rw [if_pos k1]
      rw [← tPumpz, ← tMostz]
      refine ev_ite (fun _ => ?_) (fun c => absurd (show _ by omega) c)
      refine ev_ite (fun _ => ?_) (fun c => absurd (show _ by simp only [ByteArray.size_append]; omega) c)
      refine Ev.bind (impl_FormatMeasure_ev mo) ?_
      exact ev_ite (fun _ => Ev.now _) (fun c => absurd (show _ by simp only [ByteArray.size_append]; omega) c)
    · rw [if_neg k1]
      have s2' := s2 k1
      refine ev_ite (fun k2 => ?_) (fun k2 => ?_)
      · rw [if_pos k2]
        obtain ⟨h0, h3⟩ := s3 k2
        have hh := pNum_sz hd h0 (by omega)
        rw [← tNz, ← tOnz, ← tAtz, ← tHeadz, ← tTiltz, ← tMostz]
        refine ev_ite (fun _ => ?_) (fun c => absurd (show _ by omega) c)
        refine ev_ite (fun _ => ?_) (fun c => absurd (show _ by simp only [ByteArray.size_append]; omega) c)
        refine ev_ite (fun _ => ?_) (fun c => absurd (show _ by simp only [ByteArray.size_append]; omega) c)
        refine ev_ite (fun _ => ?_) (fun c => absurd (show _ by simp only [ByteArray.size_append]; omega) c)
        refine Ev.bind (impl_FormatPlace_ev x y) ?_
        refine ev_ite (fun _ => ?_) (fun c => absurd (show _ by simp only [ByteArray.size_append]; omega) c)
        refine ev_ite (fun _ => ?_) (fun c => absurd (show _ by simp only [ByteArray.size_append]; omega) c)
        refine Ev.bind (impl_FormatNumber_ev hd (by omega) (by omega)) ?_
        refine ev_ite (fun _ => ?_) (fun c => absurd (show _ by simp only [ByteArray.size_append]; omega) c)
        refine ev_ite (fun _ => ?_) (fun c => absurd (show _ by simp only [ByteArray.size_append]; omega) c)
        refine Ev.bind (impl_FormatMeasure_ev ti) ?_
        refine ev_ite (fun _ => ?_) (fun c => absurd (show _ by simp only [ByteArray.size_append]; omega) c)
        refine ev_ite (fun _ => ?_) (fun c => absurd (show _ by simp only [ByteArray.size_append]; omega) c)
        refine Ev.bind (impl_FormatMeasure_ev mo) ?_
        exact ev_ite (fun _ => Ev.now _) (fun c => absurd (show _ by simp only [ByteArray.size_append]; omega) c)
      · rw [if_neg k2]
        rw [← tLampz, ← tOnz, ← tAtz]
        refine ev_ite (fun _ => ?_) (fun c => absurd (show _ by omega) c)
        refine ev_ite (fun _ => ?_) (fun c => absurd (show _ by simp only [ByteArray.size_append]; omega) c)
        refine ev_ite (fun _ => ?_) (fun c => absurd (show _ by simp only [ByteArray.size_append]; omega) c)
        refine ev_ite (fun _ => ?_) (fun c => absurd (show _ by simp only [ByteArray.size_append]; omega) c)
        refine Ev.bind (impl_FormatPlace_ev x y) ?_
        exact ev_ite (fun _ => Ev.now _) (fun c => absurd (show _ by simp only [ByteArray.size_append]; omega) c)
  · rw [if_neg h]; exact Ev.now _
theorem spec_FormatDevice_ev (n : ByteArray) (kd : Int) (ln : ByteArray) (x y hd ti mo : Int) (hn : n.size ≤ 9223372036854775807) (hl : ln.size ≤ 9223372036854775807) : Ev (fun k => spec_FormatDevice.f k n kd ln x y hd ti mo) (pDevT n kd ln x y hd ti mo) := by
  unfold spec_FormatDevice.f pDevT
  refine Ev.bind (spec_IsDevice_ev n kd ln x y hd ti mo hn hl) ?_
  refine ev_ite (fun h => ?_) (fun h => ?_)
  · rw [if_pos h]
    obtain ⟨s1, s2, s3⟩ := pDev_num h
    have hp := pPlaceT_size x y
    have hm := pFmt_size mo
    have ht := pFmt_size ti
    obtain ⟨z1, z2, z3, z4, z5, z6, z7, z8⟩ := tz
    refine ev_ite (fun k1 => ?_) (fun k1 => ?_)
    · rw [if_pos k1]
      rw [← tPumpz, ← tMostz]
      refine ev_ite (fun _ => ?_) (fun c => absurd (show _ by omega) c)
      refine ev_ite (fun _ => ?_) (fun c => absurd (show _ by simp only [ByteArray.size_append]; omega) c)
      refine Ev.bind (spec_FormatMeasure_ev mo) ?_
      exact ev_ite (fun _ => Ev.now _) (fun c => absurd (show _ by simp only [ByteArray.size_append]; omega) c)
    · rw [if_neg k1]
      have s2' := s2 k1
      refine ev_ite (fun k2 => ?_) (fun k2 => ?_)
      · rw [if_pos k2]
        obtain ⟨h0, h3⟩ := s3 k2
        have hh := pNum_sz hd h0 (by omega)
        have fh := spec_FormatNumber_ev hd.toNat (by omega)
        rw [show ((hd.toNat : Nat) : Int) = hd by omega] at fh
        rw [← tNz, ← tOnz, ← tAtz, ← tHeadz, ← tTiltz, ← tMostz]
        refine ev_ite (fun _ => ?_) (fun c => absurd (show _ by omega) c)
        refine ev_ite (fun _ => ?_) (fun c => absurd (show _ by simp only [ByteArray.size_append]; omega) c)
        refine ev_ite (fun _ => ?_) (fun c => absurd (show _ by simp only [ByteArray.size_append]; omega) c)
        refine ev_ite (fun _ => ?_) (fun c => absurd (show _ by simp only [ByteArray.size_append]; omega) c)
        refine Ev.bind (spec_FormatPlace_ev x y) ?_
        refine ev_ite (fun _ => ?_) (fun c => absurd (show _ by simp only [ByteArray.size_append]; omega) c)
        refine ev_ite (fun _ => ?_) (fun c => absurd (show _ by simp only [ByteArray.size_append]; omega) c)
        refine Ev.bind (fh) ?_
        refine ev_ite (fun _ => ?_) (fun c => absurd (show _ by simp only [ByteArray.size_append]; omega) c)
        refine ev_ite (fun _ => ?_) (fun c => absurd (show _ by simp only [ByteArray.size_append]; omega) c)
        refine Ev.bind (spec_FormatMeasure_ev ti) ?_
        refine ev_ite (fun _ => ?_) (fun c => absurd (show _ by simp only [ByteArray.size_append]; omega) c)
        refine ev_ite (fun _ => ?_) (fun c => absurd (show _ by simp only [ByteArray.size_append]; omega) c)
        refine Ev.bind (spec_FormatMeasure_ev mo) ?_
        exact ev_ite (fun _ => Ev.now _) (fun c => absurd (show _ by simp only [ByteArray.size_append]; omega) c)
      · rw [if_neg k2]
        rw [← tLampz, ← tOnz, ← tAtz]
        refine ev_ite (fun _ => ?_) (fun c => absurd (show _ by omega) c)
        refine ev_ite (fun _ => ?_) (fun c => absurd (show _ by simp only [ByteArray.size_append]; omega) c)
        refine ev_ite (fun _ => ?_) (fun c => absurd (show _ by simp only [ByteArray.size_append]; omega) c)
        refine ev_ite (fun _ => ?_) (fun c => absurd (show _ by simp only [ByteArray.size_append]; omega) c)
        refine Ev.bind (spec_FormatPlace_ev x y) ?_
        exact ev_ite (fun _ => Ev.now _) (fun c => absurd (show _ by simp only [ByteArray.size_append]; omega) c)
  · rw [if_neg h]; exact Ev.now _
/-- The words between the bytes c; p is the word that has begun. -/
def splA (c : UInt8) : List UInt8 → List UInt8 → List (List UInt8)
  | p, [] => [p]
  | p, b :: l => if b = c then p :: splA c [] l else splA c (p ++ [b]) l
theorem splA_word (c : UInt8) : ∀ (w p r : List UInt8), c ∉ w → splA c p (w ++ c :: r) = (p ++ w) :: splA c [] r
  | [], p, r, _ => by simp [splA]
  | b :: w, p, r, h => by
    have hb : ¬ b = c := fun e => h (by simp [e])
    rw [List.cons_append, splA, if_neg hb, splA_word c w (p ++ [b]) r (fun e => h (by simp [e]))]
    simp
theorem splA_last (c : UInt8) : ∀ (w p : List UInt8), c ∉ w → splA c p w = [p ++ w]
  | [], p, _ => by simp [splA]
  | b :: w, p, h => by
    have hb : ¬ b = c := fun e => h (by simp [e])
    rw [splA, if_neg hb, splA_last c w (p ++ [b]) (fun e => h (by simp [e]))]
    simp
theorem splA_len (c : UInt8) : ∀ (l p w : List UInt8), w ∈ splA c p l → w.length ≤ p.length + l.length
  | [], p, w, h => by simp [splA] at h; subst h; simp
  | b :: l, p, w, h => by
    rw [splA] at h
    split at h
    · rcases List.mem_cons.1 h with rfl | h
      · simp
      · have := splA_len c l [] w h; simp at this ⊢; omega
    · have := splA_len c l _ w h; simp at this ⊢; omega
theorem splA_count (c : UInt8) : ∀ (l p : List UInt8), (splA c p l).length ≤ l.length + 1
  | [], p => by simp [splA]
  | b :: l, p => by
    rw [splA]
    split
    · have := splA_count c l []; simp only [List.length_cons]; omega
    · have := splA_count c l (p ++ [b]); simp only [List.length_cons]; omega
theorem splA_ne (c : UInt8) : ∀ (l p : List UInt8), splA c p l ≠ []
  | [], p => by simp [splA]
  | b :: l, p => by
    rw [splA]
    split
    · simp
    · exact splA_ne c l _
theorem mem_first {c : UInt8} : ∀ {l : List UInt8}, c ∈ l → ∃ w r, l = w ++ c :: r ∧ c ∉ w
  | b :: l, h => by
    by_cases e : b = c
    · exact ⟨[], l, by rw [e]; rfl, by simp⟩
    · have h' : c ∈ l := by
        rcases List.mem_cons.1 h with h | h
        · exact absurd h.symm e
        · exact h
      obtain ⟨w, r, e1, e2⟩ := mem_first h'
      exact ⟨b :: w, r, by rw [e1]; rfl, by simp [e2, Ne.symm e]⟩
theorem index_one {c : UInt8} : ∀ (w r : List UInt8), c ∉ w → Go.Lib.index (w ++ c :: r) [c] = (w.length : Int)
  | [], r, _ => by simp [Go.Lib.index, List.isPrefixOf]
  | b :: w, r, h => by
    have hb : ¬ c = b := fun e => h (by simp [e])
    have ih := index_one w r (fun e => h (List.mem_cons_of_mem _ e))
    have hp : ¬ ([c].isPrefixOf (b :: (w ++ c :: r)) = true) := by simp [List.isPrefixOf, hb]
    have hq : ¬ (((w.length : Int) == -1) = true) := by simp only [beq_iff_eq]; omega
    rw [List.cons_append, Go.Lib.index, if_neg hp, ih, if_neg hq]
    simp
theorem index_none {c : UInt8} : ∀ (w : List UInt8), c ∉ w → Go.Lib.index w [c] = -1
  | [], _ => by simp [Go.Lib.index]
  | b :: w, h => by
    have hb : ¬ c = b := fun e => h (by simp [e])
    rw [Go.Lib.index, if_neg (by simp [List.isPrefixOf, hb]), index_none w (fun e => h (by simp [e])), if_pos (by decide)]
theorem splitK_eq (c : UInt8) : ∀ (k : Nat) (l : List UInt8), l.count c ≤ k → Go.Lib.splitK [c] 0 k l = splA c [] l
  | 0, l, h => by
    have hc : c ∉ l := fun m => by have := List.count_pos_iff.2 m; omega
    rw [Go.Lib.splitK, splA_last c l [] hc, List.nil_append]
  | k + 1, l, h => by
    by_cases m : c ∈ l
    · obtain ⟨w, r, rfl, hw⟩ := mem_first m
      have hr : r.count c ≤ k := by
        simp [List.count_append, List.count_cons] at h; omega
      rw [Go.Lib.splitK, index_one w r hw, if_neg (show ¬ (((w.length : Int) == -1) = true) by simp only [beq_iff_eq]; omega), splA_word c w [] r hw]
      have e1 : (w ++ c :: r).take ((w.length : Int).toNat + 0) = w := by simp
      have e2 : (w ++ c :: r).drop ((w.length : Int).toNat + [c].length) = r := by simp [List.drop_append]
      rw [e1, e2, splitK_eq c k r hr, List.nil_append]
    · rw [Go.Lib.splitK, index_none l m, if_pos (by decide), splA_last c l [] m, List.nil_append]
theorem head_of {L : List ByteArray} {w : List UInt8} {ws : List (List UInt8)} (h : L.map (fun x => x.data.toList) = w :: ws) : ∃ a t, L = a :: t ∧ a.data.toList = w ∧ t.map (fun x => x.data.toList) = ws := by
  cases L with
  | nil => cases h
  | cons a t => simp only [List.map_cons, List.cons.injEq] at h; exact ⟨a, t, rfl, h.1, h.2⟩
theorem impl_SplitAt_eq (s : ByteArray) (c : UInt8) (hs : s.size < 4294967281) : ∃ L, impl_SplitAt.f s (⟨#[c]⟩ : ByteArray) = some L ∧ L.map (fun x => x.data.toList) = splA c [] s.data.toList := by
  refine ⟨Go.Lib.splitB ⟨#[c]⟩ 0 (Go.Lib.countB s ⟨#[c]⟩) s, ?_, ?_⟩
  · unfold impl_SplitAt.f strings_Split.f
    rw [if_neg (by rw [ByteArray.toList_eq]; simp), if_pos ⟨hs, by show 1 ≤ 1; omega⟩]; rfl
  · rw [Go.Lib.splitB_data]
    refine splitK_eq c _ _ ?_
    have : Go.Lib.countB s ⟨#[c]⟩ = s.data.toList.count c := Go.Lib.count_one ..
    omega
theorem spec_SplitAt_l0 (s : ByteArray) (c : UInt8) (hs : s.size < 4294967281) : ∀ (d i fr : Nat) (out : List ByteArray), i + d = s.size → fr ≤ i → out.length ≤ i →
    ∃ L, Ev (fun k => spec_SplitAt.l0 k s (⟨#[c]⟩ : ByteArray) out (fr : Int) (i : Int)) L ∧ L.map (fun x => x.data.toList) = out.map (fun x => x.data.toList) ++ splA c ((s.data.toList.drop fr).take (i - fr)) (s.data.toList.drop i) := by
  have hsl : s.data.toList.length = s.size := by rw [Array.length_toList]; rfl
  have hx : ∀ a b : Nat, (s.extract a b).data.toList = (s.data.toList.drop a).take (b - a) := by
    intro a b
    rw [ByteArray.data_extract, Array.toList_extract, List.extract_eq_take_drop]
  have z1 : ((⟨#[c]⟩ : ByteArray).size : Int) = 1 := rfl
  intro d
  induction d with
  | zero =>
    intro i fr out h hf ho
    refine ⟨out ++ [s.extract fr s.size], ev_succ ?_, ?_⟩
    · simp only [spec_SplitAt.l0, if_neg (show ¬ (⟨#[c]⟩ : ByteArray).toList = ([] : List UInt8) by rw [ByteArray.toList_eq]; simp), z1]
      rw [decide_eq_false (show ¬ wrap64 ((i : Int) + 1) ≤ (s.size : Int) by unfold wrap64; omega)]
      refine ev_succ ?_
      simp only [spec_SplitAt.j1, Bool.false_eq_true, if_false, if_pos (nn _), if_pos (show (fr : Int) ≤ (s.size : Int) by omega), if_pos (show out.length < 8796093022208 by omega), Int.toNat_natCast]
      exact Ev.now _
    · have hd : s.data.toList.drop i = [] := List.drop_eq_nil_of_le (by omega)
      rw [hd, List.map_append, List.map_cons, List.map_nil, hx, splA, show i - fr = s.size - fr by omega]
  | succ d ih =>
    intro i fr out h hf ho
    have hi : i < s.data.toList.length := by omega
    have hd : s.data.toList.drop i = s.data.toList[i] :: s.data.toList.drop (i + 1) := List.drop_eq_getElem_cons hi
    have hw1 : wrap64 ((i : Int) + 1) = ((i + 1 : Nat) : Int) := by unfold wrap64; omega
    have hone : (s.extract i (i + 1)).toList = [s.data.toList[i]] := by
      rw [ByteArray.toList_eq, hx, hd, show i + 1 - i = 1 by omega]; rfl
    have hc : (⟨#[c]⟩ : ByteArray).toList = [c] := by rw [ByteArray.toList_eq]
    by_cases e : s.data.toList[i] = c
    · obtain ⟨L, eL, hL⟩ := ih (i + 1) (i + 1) (out ++ [s.extract fr i]) (by omega) (by omega) (by simp; omega)
      refine ⟨L, ev_succ ?_, ?_⟩
      · simp only [spec_SplitAt.l0, if_neg (show ¬ (⟨#[c]⟩ : ByteArray).toList = ([] : List UInt8) by rw [hc]; simp), z1, hw1]
        rw [decide_eq_true (show ((i + 1 : Nat) : Int) ≤ (s.size : Int) by omega)]
        refine ev_succ ?_
        simp only [spec_SplitAt.j1, if_true, if_pos (nn _), z1, hw1, if_pos (show (i : Int) ≤ ((i + 1 : Nat) : Int) by omega), if_pos (show ((i + 1 : Nat) : Int) ≤ (s.size : Int) by omega), Int.toNat_natCast, hone, hc, e,
          if_pos (show (fr : Int) ≤ (i : Int) by omega), if_pos (show (i : Int) ≤ (s.size : Int) by omega), if_pos (show out.length < 8796093022208 by omega)]
        exact eL
      · rw [hL, hd, splA, if_pos e, List.map_append, List.map_cons, List.map_nil, hx]
        simp
    · obtain ⟨L, eL, hL⟩ := ih (i + 1) fr out (by omega) (by omega) (by omega)
      refine ⟨L, ev_succ ?_, ?_⟩
      · simp only [spec_SplitAt.l0, if_neg (show ¬ (⟨#[c]⟩ : ByteArray).toList = ([] : List UInt8) by rw [hc]; simp), z1, hw1]
        rw [decide_eq_true (show ((i + 1 : Nat) : Int) ≤ (s.size : Int) by omega)]
        refine ev_succ ?_
        simp only [spec_SplitAt.j1, if_true, if_pos (nn _), z1, hw1, if_pos (show (i : Int) ≤ ((i + 1 : Nat) : Int) by omega), if_pos (show ((i + 1 : Nat) : Int) ≤ (s.size : Int) by omega), Int.toNat_natCast, hone, hc, if_neg (show ¬ [s.data.toList[i]] = [c] by simpa using e)]
        exact eL
      · rw [hL, hd, splA, if_neg e]
        have : (s.data.toList.drop fr).take (i + 1 - fr) = (s.data.toList.drop fr).take (i - fr) ++ [s.data.toList[i]] := by
          rw [show i + 1 - fr = (i - fr) + 1 by omega, List.take_add_one, List.getElem?_drop, show fr + (i - fr) = i by omega, List.getElem?_eq_getElem hi]; rfl
        rw [this]
theorem spec_SplitAt_ev (s : ByteArray) (c : UInt8) (hs : s.size < 4294967281) : ∃ L, Ev (fun k => spec_SplitAt.f k s (⟨#[c]⟩ : ByteArray)) L ∧ L.map (fun x => x.data.toList) = splA c [] s.data.toList := by
  obtain ⟨L, e, h⟩ := spec_SplitAt_l0 s c hs s.size 0 0 [] (by omega) (by omega) (by simp)
  exact ⟨L, e, by simpa using h⟩
/-- A digit. -/
def ud (d : Nat) : UInt8 := UInt8.ofNat (48 + d)
theorem ud_nat {d : Nat} (h : d < 10) : (ud d).toNat = 48 + d := by
  unfold ud; rw [UInt8.toNat_ofNat']; omega
theorem num_cases (n : Nat) (h : n ≤ 999) : (n < 10 ∧ pNum (n : Int) = ⟨#[ud n]⟩) ∨ (10 ≤ n ∧ n < 100 ∧ pNum (n : Int) = ⟨#[ud (n / 10), ud (n % 10)]⟩) ∨ (100 ≤ n ∧ pNum (n : Int) = ⟨#[ud (n / 100), ud (n / 10 % 10), ud (n % 10)]⟩) := by
  by_cases h1 : n < 10
  · exact .inl ⟨h1, pNum_small h1⟩
  · by_cases h2 : n < 100
    · refine .inr (.inl ⟨by omega, h2, ?_⟩)
      rw [pNum_step h1, pNum_small (show n / 10 < 10 by omega)]; rfl
    · refine .inr (.inr ⟨by omega, ?_⟩)
      rw [pNum_step h1, pNum_step (show ¬ n / 10 < 10 by omega), pNum_small (show n / 10 / 10 < 10 by omega), Nat.div_div_eq_div_mul]; rfl
theorem num_digits : ∀ (n : Nat), ∀ b ∈ (pNum (n : Int)).data.toList, 48 ≤ b.toNat ∧ b.toNat ≤ 57 := by
  intro n
  induction n using Nat.strongRecOn with
  | ind n ih =>
    intro b hb
    by_cases h1 : n < 10
    · rw [pNum_small h1, show (⟨#[UInt8.ofNat (48 + n)]⟩ : ByteArray).data.toList = [UInt8.ofNat (48 + n)] from rfl, List.mem_singleton] at hb
      subst hb
      have := ud_nat h1; unfold ud at this; omega
    · rw [pNum_step h1, ByteArray.data_append, Array.toList_append] at hb
      rcases List.mem_append.1 hb with hb | hb
      · exact ih (n / 10) (by omega) b hb
      · rw [show (⟨#[UInt8.ofNat (48 + n % 10)]⟩ : ByteArray).data.toList = [UInt8.ofNat (48 + n % 10)] from rfl, List.mem_singleton] at hb
        subst hb
        have := ud_nat (show n % 10 < 10 by omega); unfold ud at this; omega
theorem num_ne (n : Nat) : (pNum (n : Int)).data.toList ≠ [] := by
  by_cases h1 : n < 10
  · rw [pNum_small h1]; simp
  · rw [pNum_step h1, ByteArray.data_append, Array.toList_append]; simp
/-- What digits stand for. -/
def dvl (l : List UInt8) : Nat := l.foldl (fun a b => 10 * a + (b.toNat - 48)) 0
theorem dvl_num : ∀ (n : Nat), dvl (pNum (n : Int)).data.toList = n := by
  intro n
  induction n using Nat.strongRecOn with
  | ind n ih =>
    by_cases h1 : n < 10
    · rw [pNum_small h1]
      have := ud_nat h1; unfold ud at this
      show 10 * 0 + ((UInt8.ofNat (48 + n)).toNat - 48) = n
      omega
    · rw [pNum_step h1, ByteArray.data_append, Array.toList_append]
      have := ud_nat (show n % 10 < 10 by omega); unfold ud at this
      have h2 := ih (n / 10) (by omega)
      unfold dvl at h2 ⊢
      rw [List.foldl_append, h2]
      show 10 * (n / 10) + ((UInt8.ofNat (48 + n % 10)).toNat - 48) = n
      omega
theorem bt_1 (a : UInt8) : bt (⟨#[a]⟩ : ByteArray) 0 = (a.toNat : Int) := rfl
theorem bt_2 (a b : UInt8) : bt (⟨#[a, b]⟩ : ByteArray) 0 = (a.toNat : Int) ∧ bt (⟨#[a, b]⟩ : ByteArray) 1 = (b.toNat : Int) := ⟨rfl, rfl⟩
theorem bt_3 (a b c : UInt8) : bt (⟨#[a, b, c]⟩ : ByteArray) 0 = (a.toNat : Int) ∧ bt (⟨#[a, b, c]⟩ : ByteArray) 1 = (b.toNat : Int) ∧ bt (⟨#[a, b, c]⟩ : ByteArray) 2 = (c.toNat : Int) := ⟨rfl, rfl, rfl⟩
theorem impl_PN_l0_tot (s : ByteArray) (hs : s.size < 4611686018427387904) : ∀ (d i : Nat) (x : Int), i + d = s.size → ∃ r, Ev (fun k => impl_ParseNumber.l0 k s x (s.size : Int) (i : Int)) r := by
  intro d
  induction d with
  | zero =>
    intro i x h
    refine ⟨(x, true), ev_succ ?_⟩
    simp only [impl_ParseNumber.l0, if_neg (show ¬ (i : Int) < (s.size : Int) by omega)]
    exact Ev.now _
  | succ d ih =>
    intro i x h
    by_cases c1 : bt s (i : Int) < 48
    · refine ⟨(0, false), ev_succ ?_⟩
      simp only [impl_ParseNumber.l0, if_pos (show (i : Int) < (s.size : Int) by omega), if_pos (nn _), if_pos c1]
      exact Ev.now _
    · by_cases c2 : bt s (i : Int) > 57
      · refine ⟨(0, false), ev_succ ?_⟩
        simp only [impl_ParseNumber.l0, if_pos (show (i : Int) < (s.size : Int) by omega), if_pos (nn _), if_neg c1, if_pos c2]
        exact Ev.now _
      · obtain ⟨r, e⟩ := ih (i + 1) (wrap64 ((wrap64 (10 * x)) + ((bt s (i : Int) - 48) % 256))) (by omega)
        refine ⟨r, ev_succ ?_⟩
        simp only [impl_ParseNumber.l0, if_pos (show (i : Int) < (s.size : Int) by omega), if_pos (nn _), if_neg c1, if_neg c2]
        rw [show wrap64 ((i : Int) + 1) = ((i + 1 : Nat) : Int) by unfold wrap64; omega]
        exact e
theorem impl_PN_j0_tot (s : ByteArray) (hs : s.size < 4611686018427387904) (b : Bool) : ∃ r, Ev (fun k => impl_ParseNumber.j0 k s b) r := by
  cases b
  · obtain ⟨r, e⟩ := impl_PN_l0_tot s hs s.size 0 0 (by omega)
    refine ⟨r, ev_succ ?_⟩
    simp only [impl_ParseNumber.j0, Bool.false_eq_true, if_false]
    exact e
  · refine ⟨((0 : Int), false), ev_succ ?_⟩
    simp only [impl_ParseNumber.j0, if_true]
    exact Ev.now _
theorem impl_ParseNumber_tot (s : ByteArray) (hs : s.size < 4611686018427387904) : ∃ r, Ev (fun k => impl_ParseNumber.f k s) r := by
  by_cases c1 : (s.size : Int) = 0
  · obtain ⟨r, e⟩ := impl_PN_j0_tot s hs true
    refine ⟨r, ?_⟩
    simp only [impl_ParseNumber.f, if_pos c1]; exact e
  · by_cases c2 : (s.size : Int) > 3
    · obtain ⟨r, e⟩ := impl_PN_j0_tot s hs true
      refine ⟨r, ?_⟩
      simp only [impl_ParseNumber.f, if_neg c1, if_pos c2]; exact e
    · by_cases c3 : (s.size : Int) > 1
      · obtain ⟨r, e⟩ := impl_PN_j0_tot s hs (bt s 0 == 48)
        refine ⟨r, ?_⟩
        simp only [impl_ParseNumber.f, if_neg c1, if_neg c2, if_pos c3, if_pos (show 0 < (s.size : Int) by omega)]; exact e
      · obtain ⟨r, e⟩ := impl_PN_j0_tot s hs false
        refine ⟨r, ?_⟩
        simp only [impl_ParseNumber.f, if_neg c1, if_neg c2, if_neg c3]; exact e
theorem impl_PN_step {s : ByteArray} {i d : Nat} {x : Int} {r : Int × Bool} (hi : i < s.size) (hi2 : i < 100) (hb : bt s (i : Int) = ((48 + d : Nat) : Int)) (hd : d < 10) (hx0 : 0 ≤ x) (hx : x ≤ 1000000)
    (h : Ev (fun k => impl_ParseNumber.l0 k s (10 * x + (d : Int)) (s.size : Int) ((i + 1 : Nat) : Int)) r) : Ev (fun k => impl_ParseNumber.l0 k s x (s.size : Int) (i : Int)) r := by
  refine ev_succ ?_
  simp only [impl_ParseNumber.l0, if_pos (show (i : Int) < (s.size : Int) by omega), if_pos (nn _), hb, if_neg (show ¬ ((48 + d : Nat) : Int) < 48 by omega), if_neg (show ¬ ((48 + d : Nat) : Int) > 57 by omega)]
  rw [show wrap64 ((i : Int) + 1) = ((i + 1 : Nat) : Int) by unfold wrap64; omega, show wrap64 (wrap64 (10 * x) + (((48 + d : Nat) : Int) - 48) % 256) = 10 * x + (d : Int) by unfold wrap64; omega]
  exact h
theorem impl_PN_end {s : ByteArray} {x : Int} : Ev (fun k => impl_ParseNumber.l0 k s x (s.size : Int) (s.size : Int)) (x, true) := by
  refine ev_succ ?_
  simp only [impl_ParseNumber.l0, if_neg (show ¬ (s.size : Int) < (s.size : Int) by omega)]
  exact Ev.now _
theorem impl_PN_j0 {s : ByteArray} {r : Int × Bool} (h : Ev (fun k => impl_ParseNumber.l0 k s 0 (s.size : Int) ((0 : Nat) : Int)) r) : Ev (fun k => impl_ParseNumber.j0 k s false) r := by
  refine ev_succ ?_
  simp only [impl_ParseNumber.j0, Bool.false_eq_true, if_false]
  exact h
theorem impl_ParseNumber_num (n : Nat) (h : n ≤ 999) : Ev (fun k => impl_ParseNumber.f k (pNum (n : Int))) ((n : Int), true) := by
  rcases num_cases n h with ⟨h1, e⟩ | ⟨h1, h2, e⟩ | ⟨h1, e⟩
  · rw [e]
    have hz : (⟨#[ud n]⟩ : ByteArray).size = 1 := rfl
    have b0 : bt (⟨#[ud n]⟩ : ByteArray) ((0 : Nat) : Int) = ((48 + n : Nat) : Int) := by rw [show ((0 : Nat) : Int) = 0 from rfl, bt_1, ud_nat h1]
    simp only [impl_ParseNumber.f, hz, if_neg (show ¬ ((1 : Nat) : Int) = 0 by omega), if_neg (show ¬ ((1 : Nat) : Int) > 3 by omega), if_neg (show ¬ ((1 : Nat) : Int) > 1 by omega)]
    refine impl_PN_j0 (impl_PN_step (by omega) (by omega) b0 h1 (by omega) (by omega) ?_)
    rw [show 10 * (0 : Int) + (n : Int) = (n : Int) by omega]
    exact impl_PN_end
  · rw [e]
    have hz : (⟨#[ud (n / 10), ud (n % 10)]⟩ : ByteArray).size = 2 := rfl
    obtain ⟨t0, t1⟩ := bt_2 (ud (n / 10)) (ud (n % 10))
    rw [ud_nat (show n / 10 < 10 by omega)] at t0
    rw [ud_nat (show n % 10 < 10 by omega)] at t1
    simp only [impl_ParseNumber.f, hz, t0, if_neg (show ¬ ((2 : Nat) : Int) = 0 by omega), if_neg (show ¬ ((2 : Nat) : Int) > 3 by omega), if_pos (show ((2 : Nat) : Int) > 1 by omega), if_pos (show (0 : Int) < ((2 : Nat) : Int) by omega)]
    rw [show (((48 + n / 10 : Nat) : Int) == 48) = false by rw [beq_eq_false_iff_ne]; omega]
    refine impl_PN_j0 (impl_PN_step (by omega) (by omega) t0 (by omega) (by omega) (by omega) (impl_PN_step (by omega) (by omega) t1 (by omega) (by omega) (by omega) ?_))
    rw [show 10 * (10 * (0 : Int) + ((n / 10 : Nat) : Int)) + ((n % 10 : Nat) : Int) = (n : Int) by omega]
    exact impl_PN_end
  · rw [e]
    have hz : (⟨#[ud (n / 100), ud (n / 10 % 10), ud (n % 10)]⟩ : ByteArray).size = 3 := rfl
    obtain ⟨t0, t1, t2⟩ := bt_3 (ud (n / 100)) (ud (n / 10 % 10)) (ud (n % 10))
    rw [ud_nat (show n / 100 < 10 by omega)] at t0
    rw [ud_nat (show n / 10 % 10 < 10 by omega)] at t1
    rw [ud_nat (show n % 10 < 10 by omega)] at t2
    simp only [impl_ParseNumber.f, hz, t0, if_neg (show ¬ ((3 : Nat) : Int) = 0 by omega), if_neg (show ¬ ((3 : Nat) : Int) > 3 by omega), if_pos (show ((3 : Nat) : Int) > 1 by omega), if_pos (show (0 : Int) < ((3 : Nat) : Int) by omega)]
    rw [show (((48 + n / 100 : Nat) : Int) == 48) = false by rw [beq_eq_false_iff_ne]; omega]
    refine impl_PN_j0 (impl_PN_step (by omega) (by omega) t0 (by omega) (by omega) (by omega) (impl_PN_step (by omega) (by omega) t1 (by omega) (by omega) (by omega) (impl_PN_step (by omega) (by omega) t2 (by omega) (by omega) (by omega) ?_)))
    rw [show 10 * (10 * (10 * (0 : Int) + ((n / 100 : Nat) : Int)) + ((n / 10 % 10 : Nat) : Int)) + ((n % 10 : Nat) : Int) = (n : Int) by omega]
    exact impl_PN_end
theorem spec_PN_fin (s : ByteArray) (x : Int) : ∃ r, Ev (fun k => if (s.size : Int) = 0 then (some ((0 : Int), false)) else (if x < 0 then (some (0, false)) else (if x > 999 then (some (0, false)) else ((spec_FormatNumber.f k x).bind fun t198 => (if t198.toList = s.toList then (some (x, true)) else (some (0, false))))))) r := by
  by_cases c1 : (s.size : Int) = 0
  · simp only [if_pos c1]; exact ⟨_, Ev.now _⟩
  · by_cases c2 : x < 0
    · simp only [if_neg c1, if_pos c2]; exact ⟨_, Ev.now _⟩
    · by_cases c3 : x > 999
      · simp only [if_neg c1, if_neg c2, if_pos c3]; exact ⟨_, Ev.now _⟩
      · have fx := spec_FormatNumber_ev x.toNat (by omega)
        rw [show ((x.toNat : Nat) : Int) = x by omega] at fx
        by_cases c4 : (pNum x).toList = s.toList
        · refine ⟨(x, true), ?_⟩
          simp only [if_neg c1, if_neg c2, if_neg c3]
          refine Ev.bind fx ?_
          simp only [if_pos c4]; exact Ev.now _
        · refine ⟨(0, false), ?_⟩
          simp only [if_neg c1, if_neg c2, if_neg c3]
          refine Ev.bind fx ?_
          simp only [if_neg c4]; exact Ev.now _
theorem spec_PN_l0_tot (s : ByteArray) (hs : s.size < 4611686018427387904) : ∀ (d i : Nat) (x : Int), i + d = 4 → ∃ r, Ev (fun k => spec_ParseNumber.l0 k s x (i : Int)) r := by
  intro d
  induction d with
  | zero =>
    intro i x h
    obtain ⟨r, e⟩ := spec_PN_fin s x
    refine ⟨r, ev_succ ?_⟩
    by_cases c : (i : Int) < (s.size : Int)
    · simp only [spec_ParseNumber.l0, if_pos c, if_neg (show ¬ (i : Int) < 4 by omega)]; exact e
    · simp only [spec_ParseNumber.l0, if_neg c]; exact e
  | succ d ih =>
    intro i x h
    by_cases c : (i : Int) < (s.size : Int)
    · obtain ⟨r, e⟩ := ih (i + 1) (wrap64 ((wrap64 ((wrap64 (10 * x)) + (wrap64 (bt s (i : Int))))) - 48)) (by omega)
      refine ⟨r, ev_succ ?_⟩
      simp only [spec_ParseNumber.l0, if_pos c, if_pos (show (i : Int) < 4 by omega), if_pos (nn _)]
      rw [show wrap64 ((i : Int) + 1) = ((i + 1 : Nat) : Int) by unfold wrap64; omega]
      exact e
    · obtain ⟨r, e⟩ := spec_PN_fin s x
      refine ⟨r, ev_succ ?_⟩
      simp only [spec_ParseNumber.l0, if_neg c]; exact e
theorem spec_ParseNumber_tot (s : ByteArray) (hs : s.size < 4611686018427387904) : ∃ r, Ev (fun k => spec_ParseNumber.f k s) r := spec_PN_l0_tot s hs 4 0 0 (by omega)
theorem spec_PN_step {s : ByteArray} {i d : Nat} {x : Int} {r : Int × Bool} (hi : i < s.size) (hi2 : i < 4) (hb : bt s (i : Int) = ((48 + d : Nat) : Int)) (hd : d < 10) (hx0 : 0 ≤ x) (hx : x ≤ 1000000)
    (h : Ev (fun k => spec_ParseNumber.l0 k s (10 * x + (d : Int)) ((i + 1 : Nat) : Int)) r) : Ev (fun k => spec_ParseNumber.l0 k s x (i : Int)) r := by
  refine ev_succ ?_
  simp only [spec_ParseNumber.l0, if_pos (show (i : Int) < (s.size : Int) by omega), if_pos (show (i : Int) < 4 by omega), if_pos (nn _), hb]
  rw [show wrap64 ((i : Int) + 1) = ((i + 1 : Nat) : Int) by unfold wrap64; omega, show wrap64 (wrap64 (wrap64 (10 * x) + wrap64 ((48 + d : Nat) : Int)) - 48) = 10 * x + (d : Int) by unfold wrap64; omega]
  exact h
theorem spec_PN_end {n : Nat} (h : n ≤ 999) {m : Nat} (hm : (pNum (n : Int)).size = m) (h0 : 0 < m) : Ev (fun k => spec_ParseNumber.l0 k (pNum (n : Int)) (n : Int) (m : Int)) ((n : Int), true) := by
  refine ev_succ ?_
  simp only [spec_ParseNumber.l0, hm, if_neg (show ¬ (m : Int) < (m : Int) by omega), if_neg (show ¬ (m : Int) = 0 by omega), if_neg (show ¬ (n : Int) < 0 by omega), if_neg (show ¬ (n : Int) > 999 by omega)]
  refine Ev.bind (spec_FormatNumber_ev n (by omega)) ?_
  simp only [if_true]
  exact Ev.now _
theorem spec_ParseNumber_num (n : Nat) (h : n ≤ 999) : Ev (fun k => spec_ParseNumber.f k (pNum (n : Int))) ((n : Int), true) := by
  unfold spec_ParseNumber.f
  rcases num_cases n h with ⟨h1, e⟩ | ⟨h1, h2, e⟩ | ⟨h1, e⟩
  · have hz : (pNum (n : Int)).size = 1 := by rw [e]; rfl
    have b0 : bt (pNum (n : Int)) ((0 : Nat) : Int) = ((48 + n : Nat) : Int) := by rw [e, show ((0 : Nat) : Int) = 0 from rfl, bt_1, ud_nat h1]
    refine spec_PN_step (i := 0) (by omega) (by omega) b0 h1 (by omega) (by omega) ?_
    rw [show 10 * (0 : Int) + (n : Int) = (n : Int) by omega]
    exact spec_PN_end h hz (by omega)
  · have hz : (pNum (n : Int)).size = 2 := by rw [e]; rfl
    obtain ⟨t0, t1⟩ := bt_2 (ud (n / 10)) (ud (n % 10))
    rw [ud_nat (show n / 10 < 10 by omega), ← e] at t0
    rw [ud_nat (show n % 10 < 10 by omega), ← e] at t1
    refine spec_PN_step (i := 0) (by omega) (by omega) t0 (by omega) (by omega) (by omega) (spec_PN_step (i := 1) (by omega) (by omega) t1 (by omega) (by omega) (by omega) ?_)
    rw [show 10 * (10 * (0 : Int) + ((n / 10 : Nat) : Int)) + ((n % 10 : Nat) : Int) = (n : Int) by omega]
    exact spec_PN_end h hz (by omega)
  · have hz : (pNum (n : Int)).size = 3 := by rw [e]; rfl
    obtain ⟨t0, t1, t2⟩ := bt_3 (ud (n / 100)) (ud (n / 10 % 10)) (ud (n % 10))
    rw [ud_nat (show n / 100 < 10 by omega), ← e] at t0
    rw [ud_nat (show n / 10 % 10 < 10 by omega), ← e] at t1
    rw [ud_nat (show n % 10 < 10 by omega), ← e] at t2
    refine spec_PN_step (i := 0) (by omega) (by omega) t0 (by omega) (by omega) (by omega) (spec_PN_step (i := 1) (by omega) (by omega) t1 (by omega) (by omega) (by omega) (spec_PN_step (i := 2) (by omega) (by omega) t2 (by omega) (by omega) (by omega) ?_))
    rw [show 10 * (10 * (10 * (0 : Int) + ((n / 100 : Nat) : Int)) + ((n / 10 % 10 : Nat) : Int)) + ((n % 10 : Nat) : Int) = (n : Int) by omega]
    exact spec_PN_end h hz (by omega)
theorem ba_ext {a b : ByteArray} (h : a.data.toList = b.data.toList) : a = b := by
  obtain ⟨x⟩ := a
  obtain ⟨y⟩ := b
  exact congrArg ByteArray.mk (Array.toList_inj.1 h)
theorem ba_tl (a : ByteArray) : a.toList = a.data.toList := ByteArray.toList_eq a
theorem ba_sz (a : ByteArray) : a.data.toList.length = a.size := by rw [Array.length_toList]; rfl
theorem bt_head {h : ByteArray} {b : UInt8} {l : List UInt8} (e : h.data.toList = b :: l) : bt h 0 = (b.toNat : Int) := by
  obtain ⟨⟨x⟩⟩ := h
  change x = b :: l at e
  subst e
  rfl
def sgnl (x : Int) : List UInt8 := if x < 0 then [45] else []
theorem sgnT_list (x : Int) : (sgnT x).data.toList = sgnl x := by
  unfold sgnT sgnl; split <;> rfl
/-- The digits before the point. -/
def numl (x : Int) : List UInt8 := (pNum ((x.natAbs / 8 : Nat) : Int)).data.toList
def fracl (x : Int) : List UInt8 := (fracT (x.natAbs % 8)).data.toList
theorem pFmt_list {x : Int} (h0 : -4096 ≤ x) (h1 : x ≤ 4096) : (pFmt x).data.toList = sgnl x ++ (numl x ++ fracl x) := by
  unfold pFmt
  rw [if_pos ⟨h0, h1⟩, ByteArray.data_append, ByteArray.data_append, Array.toList_append, Array.toList_append, sgnT_list, List.append_assoc]; rfl
theorem fracT_cases (r : Nat) (h : r < 8) : ((fracT r).data.toList = [] ∧ r = 0) ∨ ∃ f, (fracT r).data.toList = 46 :: f ∧ f.length ≤ 3 ∧ (∀ b ∈ f, 48 ≤ b.toNat ∧ b.toNat ≤ 57) := by
  have : r = 0 ∨ r = 1 ∨ r = 2 ∨ r = 3 ∨ r = 4 ∨ r = 5 ∨ r = 6 ∨ r = 7 := by omega
  rcases this with rfl | rfl | rfl | rfl | rfl | rfl | rfl | rfl
  · exact .inl ⟨rfl, rfl⟩
  · exact .inr ⟨[49, 50, 53], rfl, by decide, by decide⟩
  · exact .inr ⟨[50, 53], rfl, by decide, by decide⟩
  · exact .inr ⟨[51, 55, 53], rfl, by decide, by decide⟩
  · exact .inr ⟨[53], rfl, by decide, by decide⟩
  · exact .inr ⟨[54, 50, 53], rfl, by decide, by decide⟩
  · exact .inr ⟨[55, 53], rfl, by decide, by decide⟩
  · exact .inr ⟨[56, 55, 53], rfl, by decide, by decide⟩
theorem fracT_inj {r q : Nat} (hr : r < 8) (hq : q < 8) (h : (fracT r).data.toList = (fracT q).data.toList) : r = q := by
  have key : ∀ a b : Fin 8, (fracT a.val).data.toList = (fracT b.val).data.toList → a = b := by decide
  exact congrArg Fin.val (key ⟨r, hr⟩ ⟨q, hq⟩ h)
def isD (b : UInt8) : Bool := decide (48 ≤ b.toNat) && decide (b.toNat ≤ 57)
theorem numl_D (x : Int) : ∀ b ∈ numl x, isD b = true := fun b hb => by
  have := num_digits _ b hb
  unfold isD; rw [decide_eq_true this.1, decide_eq_true this.2]; rfl
theorem numl_ne (x : Int) : numl x ≠ [] := num_ne _
theorem fracl_D (x : Int) : (fracl x).takeWhile isD = [] := by
  rcases fracT_cases (x.natAbs % 8) (by omega) with ⟨h, _⟩ | ⟨f, h, _⟩
  · unfold fracl; rw [h]; rfl
  · unfold fracl; rw [h]; rfl
theorem nf_take (x : Int) : (numl x ++ fracl x).takeWhile isD = numl x := by
  rw [List.takeWhile_append_of_pos (numl_D x), fracl_D, List.append_nil]
theorem numl_head (x : Int) : ∃ b l, numl x = b :: l ∧ ¬ b = 45 := by
  cases h : numl x with
  | nil => exact absurd h (numl_ne x)
  | cons b l =>
    refine ⟨b, l, rfl, fun e => ?_⟩
    have := numl_D x b (by rw [h]; simp)
    rw [e] at this; exact absurd this (by decide)
/-- One text, one measure. -/
theorem pFmt_inj {x z : Int} (h0 : -4096 ≤ x) (h1 : x ≤ 4096) (h : (pFmt z).toList = (pFmt x).toList) : z = x := by
  rw [ba_tl, ba_tl, pFmt_list h0 h1] at h
  by_cases hz : -4096 ≤ z ∧ z ≤ 4096
  · rw [pFmt_list hz.1 hz.2] at h
    obtain ⟨b, l, e1, e2⟩ := numl_head x
    obtain ⟨b', l', e1', e2'⟩ := numl_head z
    have fin : numl z ++ fracl z = numl x ++ fracl x → x.natAbs = z.natAbs := by
      intro hh
      have h3 : numl z = numl x := by rw [← nf_take z, hh, nf_take]
      rw [h3] at hh
      have h4 : fracl z = fracl x := List.append_cancel_left hh
      have h5 : z.natAbs / 8 = x.natAbs / 8 := by
        have a := dvl_num (z.natAbs / 8)
        have b := dvl_num (x.natAbs / 8)
        unfold numl at h3
        rw [h3, b] at a; omega
      have h6 : z.natAbs % 8 = x.natAbs % 8 := fracT_inj (by omega) (by omega) h4
      omega
    unfold sgnl at h
    by_cases c : z < 0 <;> by_cases c' : x < 0
    · rw [if_pos c, if_pos c'] at h
      have := fin (List.append_cancel_left h)
      omega
    · rw [if_pos c, if_neg c', e1] at h
      simp at h
      exact absurd h.1.symm e2
    · rw [if_neg c, if_pos c', e1'] at h
      simp at h
      exact absurd h.1 e2'
    · rw [if_neg c, if_neg c'] at h
      have := fin (List.append_cancel_left h)
      omega
  · exfalso
    unfold pFmt at h
    rw [if_neg hz] at h
    have h2 := congrArg List.length h
    have h3 : numl x ≠ [] := numl_ne x
    have h4 := List.length_pos_iff.2 h3
    simp only [List.length_append] at h2
    change 0 = _ at h2
    omega
theorem dot_num (x : Int) : (46 : UInt8) ∉ sgnl x ++ numl x := by
  intro h
  rcases List.mem_append.1 h with h | h
  · unfold sgnl at h; split at h
    · simp at h
    · cases h
  · have := numl_D x 46 h; exact absurd this (by decide)
theorem cut_dot (x : Int) : ∃ f b, Go.Lib.cut (numl x ++ fracl x) [46] = (numl x, f, b) ∧ f.length ≤ 3 := by
  have hn : (46 : UInt8) ∉ numl x := fun h => dot_num x (List.mem_append.2 (.inr h))
  rcases fracT_cases (x.natAbs % 8) (by omega) with ⟨h, _⟩ | ⟨f, h, hf, _⟩
  · refine ⟨[], false, ?_, by simp⟩
    have e : fracl x = [] := h
    rw [e, List.append_nil]
    unfold Go.Lib.cut
    rw [index_none _ hn, if_neg (by omega)]
  · refine ⟨f, true, ?_, hf⟩
    have e : fracl x = 46 :: f := h
    rw [e]
    unfold Go.Lib.cut
    rw [index_one _ _ hn, if_pos (by omega)]
    simp [List.drop_append]
theorem impl_PM_l1 (s : ByteArray) (x9 x34 p q : Int) (r : Int × Bool)
    (h : ((pFmt p).toList = s.toList ∧ r = (p, true)) ∨ (¬ (pFmt p).toList = s.toList ∧ (pFmt q).toList = s.toList ∧ r = (q, true)) ∨ (¬ (pFmt p).toList = s.toList ∧ ¬ (pFmt q).toList = s.toList ∧ Ev (fun k => impl_ParseMeasure.l0 k s x9 (wrap64 (x34 + 1))) r)) :
    Ev (fun k => impl_ParseMeasure.l1 k s x9 x34 [p, q] 2 0) r := by
  have r0 : rd [p, q] 0 = p := rfl
  have r1 : rd [p, q] 1 = q := rfl
  have w1 : wrap64 ((0 : Int) + 1) = 1 := by unfold wrap64; omega
  have w2 : wrap64 ((1 : Int) + 1) = 2 := by unfold wrap64; omega
  have l2 : (([p, q] : List Int).length : Int) = 2 := rfl
  rcases h with ⟨h, rfl⟩ | ⟨h, h', rfl⟩ | ⟨h, h', e⟩
  · refine ev_succ ?_
    simp only [impl_ParseMeasure.l1, l2, r0, if_pos (show (0 : Int) < 2 by omega), if_pos (show (0 : Int) ≤ 0 by omega)]
    refine Ev.bind (impl_FormatMeasure_ev p) ?_
    simp only [if_pos h]; exact Ev.now _
  · refine ev_succ ?_
    simp only [impl_ParseMeasure.l1, l2, r0, if_pos (show (0 : Int) < 2 by omega), if_pos (show (0 : Int) ≤ 0 by omega), w1]
    refine Ev.bind (impl_FormatMeasure_ev p) ?_
    simp only [if_neg h]
    refine ev_succ ?_
    simp only [impl_ParseMeasure.l1, l2, r1, if_pos (show (1 : Int) < 2 by omega), if_pos (show (0 : Int) ≤ 1 by omega)]
    refine Ev.bind (impl_FormatMeasure_ev q) ?_
    simp only [if_pos h']; exact Ev.now _
  · refine ev_succ ?_
    simp only [impl_ParseMeasure.l1, l2, r0, if_pos (show (0 : Int) < 2 by omega), if_pos (show (0 : Int) ≤ 0 by omega), w1]
    refine Ev.bind (impl_FormatMeasure_ev p) ?_
    simp only [if_neg h]
    refine ev_succ ?_
    simp only [impl_ParseMeasure.l1, l2, r1, if_pos (show (1 : Int) < 2 by omega), if_pos (show (0 : Int) ≤ 1 by omega), w2]
    refine Ev.bind (impl_FormatMeasure_ev q) ?_
    simp only [if_neg h']
    refine ev_succ ?_
    simp only [impl_ParseMeasure.l1, if_neg (show ¬ (2 : Int) < 2 by omega)]
    exact e
theorem impl_PM_l0_tot (s : ByteArray) (x9 : Int) : ∀ (d i : Nat), i + d = 8 → ∃ r, Ev (fun k => impl_ParseMeasure.l0 k s x9 (i : Int)) r := by
  intro d
  induction d with
  | zero =>
    intro i h
    refine ⟨((0 : Int), false), ev_succ ?_⟩
    simp only [impl_ParseMeasure.l0, if_neg (show ¬ (i : Int) < 8 by omega)]
    exact Ev.now _
  | succ d ih =>
    intro i h
    have hw : wrap64 ((i : Int) + 1) = ((i + 1 : Nat) : Int) := by unfold wrap64; omega
    obtain ⟨r', e'⟩ := ih (i + 1) (by omega)
    have l2 : ∀ a b : Int, (([a, b] : List Int).length : Int) = 2 := fun _ _ => rfl
    have main : ∃ r, Ev (fun k => impl_ParseMeasure.l1 k s x9 (i : Int) [wrap64 (x9 + (i : Int)), wrap64 ((wrap64 (-x9)) - (i : Int))] 2 0) r := by
      by_cases c1 : (pFmt (wrap64 (x9 + (i : Int)))).toList = s.toList
      · exact ⟨_, impl_PM_l1 s _ _ _ _ _ (.inl ⟨c1, rfl⟩)⟩
      · by_cases c2 : (pFmt (wrap64 ((wrap64 (-x9)) - (i : Int)))).toList = s.toList
        · exact ⟨_, impl_PM_l1 s _ _ _ _ _ (.inr (.inl ⟨c1, c2, rfl⟩))⟩
        · exact ⟨r', impl_PM_l1 s _ _ _ _ _ (.inr (.inr ⟨c1, c2, by rw [hw]; exact e'⟩))⟩
    obtain ⟨r, e⟩ := main
    refine ⟨r, ev_succ ?_⟩
    simp only [impl_ParseMeasure.l0, if_pos (show (i : Int) < 8 by omega), Option.bind_some, l2]
    exact e
theorem impl_PM_l0 {s : ByteArray} {x : Int} (h0 : -4096 ≤ x) (h1 : x ≤ 4096) (hs : s = pFmt x) : ∀ (d i : Nat), i + d = x.natAbs % 8 → Ev (fun k => impl_ParseMeasure.l0 k s ((8 * (x.natAbs / 8) : Nat) : Int) (i : Int)) (x, true) := by
  intro d
  induction d with
  | zero =>
    intro i h
    have l2 : ∀ a b : Int, (([a, b] : List Int).length : Int) = 2 := fun _ _ => rfl
    refine ev_succ ?_
    simp only [impl_ParseMeasure.l0, if_pos (show (i : Int) < 8 by omega), Option.bind_some, l2]
    rw [show wrap64 (((8 * (x.natAbs / 8) : Nat) : Int) + (i : Int)) = (x.natAbs : Int) by unfold wrap64; omega, show wrap64 (wrap64 (-((8 * (x.natAbs / 8) : Nat) : Int)) - (i : Int)) = -(x.natAbs : Int) by unfold wrap64; omega]
    by_cases c : x < 0
    · refine impl_PM_l1 s _ _ _ _ _ (.inr (.inl ⟨fun e => ?_, ?_, ?_⟩))
      · have := pFmt_inj h0 h1 (e.trans (by rw [hs])); omega
      · rw [show -(x.natAbs : Int) = x by omega, hs]
      · rw [show -(x.natAbs : Int) = x by omega]
    · refine impl_PM_l1 s _ _ _ _ _ (.inl ⟨?_, ?_⟩)
      · rw [show (x.natAbs : Int) = x by omega, hs]
      · rw [show (x.natAbs : Int) = x by omega]
  | succ d ih =>
    intro i h
    have l2 : ∀ a b : Int, (([a, b] : List Int).length : Int) = 2 := fun _ _ => rfl
    refine ev_succ ?_
    simp only [impl_ParseMeasure.l0, if_pos (show (i : Int) < 8 by omega), Option.bind_some, l2]
    rw [show wrap64 (((8 * (x.natAbs / 8) : Nat) : Int) + (i : Int)) = ((8 * (x.natAbs / 8) + i : Nat) : Int) by unfold wrap64; omega, show wrap64 (wrap64 (-((8 * (x.natAbs / 8) : Nat) : Int)) - (i : Int)) = -((8 * (x.natAbs / 8) + i : Nat) : Int) by unfold wrap64; omega]
    refine impl_PM_l1 s _ _ _ _ _ (.inr (.inr ⟨fun e => ?_, fun e => ?_, ?_⟩))
    · have := pFmt_inj h0 h1 (e.trans (by rw [hs])); omega
    · have := pFmt_inj h0 h1 (e.trans (by rw [hs])); omega
    · rw [show wrap64 ((i : Int) + 1) = ((i + 1 : Nat) : Int) by unfold wrap64; omega]
      exact ih (i + 1) (by omega)
theorem impl_PM_j0_tot (s : ByteArray) (n : Int) (b : Bool) : ∃ r, Ev (fun k => impl_ParseMeasure.j0 k s n b) r := by
  cases b
  · obtain ⟨r, e⟩ := impl_PM_l0_tot s (wrap64 (8 * n)) 8 0 (by omega)
    refine ⟨r, ev_succ ?_⟩
    simp only [impl_ParseMeasure.j0, Bool.false_eq_true, if_false]
    exact e
  · refine ⟨((0 : Int), false), ev_succ ?_⟩
    simp only [impl_ParseMeasure.j0, if_true]
    exact Ev.now _
theorem cut_le (l sep : List UInt8) : (Go.Lib.cut l sep).1.length ≤ l.length := by
  unfold Go.Lib.cut; split
  · simp; omega
  · simp
theorem trimPrefix_le (l p : List UInt8) : (Go.Lib.trimPrefix l p).length ≤ l.length := by
  unfold Go.Lib.trimPrefix; split <;> simp
theorem impl_ParseMeasure_tot (s : ByteArray) (hs : s.size < 4294967281) : ∃ r, Ev (fun k => impl_ParseMeasure.f k s) r := by
  have ht := trimPrefix_le s.data.toList [45]
  rw [ba_sz] at ht
  have hc := cut_le (Go.Lib.trimPrefix s.data.toList [45]) [46]
  obtain ⟨pn, epn⟩ := impl_ParseNumber_tot (⟨(Go.Lib.cut (Go.Lib.trimPrefix s.data.toList [45]) [46]).1.toArray⟩ : ByteArray) (by show (Array.size _) < _; rw [List.size_toArray]; omega)
  have hz : (⟨(Go.Lib.trimPrefix s.data.toList [45]).toArray⟩ : ByteArray).size < 4294967281 := by show (Array.size _) < _; rw [List.size_toArray]; omega
  by_cases c : pn.2 = true
  · obtain ⟨r, e⟩ := impl_PM_j0_tot s pn.1 (decide (((⟨(Go.Lib.cut (Go.Lib.trimPrefix s.data.toList [45]) [46]).2.1.toArray⟩ : ByteArray).size : Int) > 3))
    refine ⟨r, ?_⟩
    simp only [impl_ParseMeasure.f, strings_TrimPrefix.f, strings_Cut.f, Option.bind_some, if_pos hz]
    refine Ev.bind epn ?_
    simp only [if_pos c]
    exact e
  · obtain ⟨r, e⟩ := impl_PM_j0_tot s pn.1 true
    refine ⟨r, ?_⟩
    simp only [impl_ParseMeasure.f, strings_TrimPrefix.f, strings_Cut.f, Option.bind_some, if_pos hz]
    refine Ev.bind epn ?_
    simp only [if_neg c]
    exact e
theorem impl_ParseMeasure_fmt {x : Int} (h0 : -4096 ≤ x) (h1 : x ≤ 4096) : Ev (fun k => impl_ParseMeasure.f k (pFmt x)) (x, true) := by
  have hl := pFmt_list h0 h1
  have ht : Go.Lib.trimPrefix (pFmt x).data.toList [45] = numl x ++ fracl x := by
    rw [hl]
    unfold Go.Lib.trimPrefix Go.Lib.hasPrefix sgnl
    obtain ⟨b, l, e1, e2⟩ := numl_head x
    by_cases c : x < 0
    · rw [if_pos c]; simp [List.isPrefixOf]
    · rw [if_neg c, e1]
      simp [List.isPrefixOf, Ne.symm e2]
  obtain ⟨f, b, hc, hf⟩ := cut_dot x
  have hsz := pFmt_size x
  have hln : (numl x ++ fracl x).length ≤ 1000 := by
    have := congrArg List.length hl
    rw [ba_sz, List.length_append] at this; omega
  have hz : (⟨(numl x ++ fracl x).toArray⟩ : ByteArray).size < 4294967281 := by show (Array.size _) < _; rw [List.size_toArray]; omega
  have hn : (⟨(numl x).toArray⟩ : ByteArray) = pNum ((x.natAbs / 8 : Nat) : Int) := ba_ext rfl
  have hfz : (⟨f.toArray⟩ : ByteArray).size ≤ 3 := by show (Array.size _) ≤ _; rw [List.size_toArray]; exact hf
  simp only [impl_ParseMeasure.f, strings_TrimPrefix.f, strings_Cut.f, Option.bind_some, ht, if_pos hz, hc, hn]
  refine Ev.bind (impl_ParseNumber_num (x.natAbs / 8) (by omega)) ?_
  simp only [if_true]
  rw [decide_eq_false (show ¬ ((⟨f.toArray⟩ : ByteArray).size : Int) > 3 by omega)]
  refine ev_succ ?_
  simp only [impl_ParseMeasure.j0, Bool.false_eq_true, if_false]
  rw [show wrap64 (8 * ((x.natAbs / 8 : Nat) : Int)) = ((8 * (x.natAbs / 8) : Nat) : Int) by unfold wrap64; omega]
  exact impl_PM_l0 h0 h1 rfl (x.natAbs % 8) 0 (by omega)
theorem spec_PM_l0_tot (s : ByteArray) (mi : Bool) (n : Int) (ok : Bool) : ∀ (d i : Nat), i + d = 8 → ∃ r, Ev (fun k => spec_ParseMeasure.l0 k s mi n ok (i : Int)) r := by
  intro d
  induction d with
  | zero =>
    intro i h
    refine ⟨((0 : Int), false), ev_succ ?_⟩
    simp only [spec_ParseMeasure.l0, if_neg (show ¬ (i : Int) < 8 by omega)]
    refine ev_succ ?_
    simp only [spec_ParseMeasure.j3, Bool.false_eq_true, if_false]
    exact Ev.now _
  | succ d ih =>
    intro i h
    have hw : wrap64 ((i : Int) + 1) = ((i + 1 : Nat) : Int) := by unfold wrap64; omega
    obtain ⟨r', e'⟩ := ih (i + 1) (by omega)
    have main : ∃ r, Ev (fun k => spec_ParseMeasure.j3 k s mi n ok (i : Int) ok) r := by
      cases ok
      · refine ⟨((0 : Int), false), ev_succ ?_⟩
        simp only [spec_ParseMeasure.j3, Bool.false_eq_true, if_false]
        exact Ev.now _
      · cases mi
        · by_cases c : (pFmt (wrap64 ((wrap64 (8 * n)) + (i : Int)))).toList = s.toList
          · refine ⟨(wrap64 ((wrap64 (8 * n)) + (i : Int)), true), ev_succ ?_⟩
            simp only [spec_ParseMeasure.j3, Bool.false_eq_true, if_false, if_true]
            refine Ev.bind (spec_FormatMeasure_ev _) ?_
            simp only [if_pos c]; exact Ev.now _
          · refine ⟨r', ev_succ ?_⟩
            simp only [spec_ParseMeasure.j3, Bool.false_eq_true, if_false, if_true]
            refine Ev.bind (spec_FormatMeasure_ev _) ?_
            simp only [if_neg c, hw]; exact e'
        · by_cases c : (pFmt (wrap64 (-(wrap64 ((wrap64 (8 * n)) + (i : Int)))))).toList = s.toList
          · refine ⟨(wrap64 (-(wrap64 ((wrap64 (8 * n)) + (i : Int)))), true), ev_succ ?_⟩
            simp only [spec_ParseMeasure.j3, if_true]
            refine Ev.bind (spec_FormatMeasure_ev _) ?_
            simp only [if_pos c]; exact Ev.now _
          · refine ⟨r', ev_succ ?_⟩
            simp only [spec_ParseMeasure.j3, if_true]
            refine Ev.bind (spec_FormatMeasure_ev _) ?_
            simp only [if_neg c, hw]; exact e'
    obtain ⟨r, e⟩ := main
    refine ⟨r, ev_succ ?_⟩
    simp only [spec_ParseMeasure.l0, if_pos (show (i : Int) < 8 by omega)]
    exact e
theorem spec_PM_l0 {s : ByteArray} {x : Int} (h0 : -4096 ≤ x) (h1 : x ≤ 4096) (hs : s = pFmt x) : ∀ (d i : Nat), i + d = x.natAbs % 8 → Ev (fun k => spec_ParseMeasure.l0 k s (decide (x < 0)) ((x.natAbs / 8 : Nat) : Int) true (i : Int)) (x, true) := by
  intro d
  induction d with
  | zero =>
    intro i h
    refine ev_succ ?_
    simp only [spec_ParseMeasure.l0, if_pos (show (i : Int) < 8 by omega)]
    refine ev_succ ?_
    simp only [spec_ParseMeasure.j3, if_true]
    rw [show wrap64 (wrap64 (8 * ((x.natAbs / 8 : Nat) : Int)) + (i : Int)) = (x.natAbs : Int) by unfold wrap64; omega, show wrap64 (-(x.natAbs : Int)) = -(x.natAbs : Int) by unfold wrap64; omega]
    by_cases c : x < 0
    · rw [decide_eq_true c]
      simp only [if_true]
      refine Ev.bind (spec_FormatMeasure_ev _) ?_
      rw [show -(x.natAbs : Int) = x by omega, hs]
      simp only [if_true]; exact Ev.now _
    · rw [decide_eq_false c]
      simp only [Bool.false_eq_true, if_false]
      refine Ev.bind (spec_FormatMeasure_ev _) ?_
      rw [show (x.natAbs : Int) = x by omega, hs]
      simp only [if_true]; exact Ev.now _
  | succ d ih =>
    intro i h
    have hw : wrap64 ((i : Int) + 1) = ((i + 1 : Nat) : Int) := by unfold wrap64; omega
    refine ev_succ ?_
    simp only [spec_ParseMeasure.l0, if_pos (show (i : Int) < 8 by omega)]
    refine ev_succ ?_
    simp only [spec_ParseMeasure.j3, if_true, hw]
    rw [show wrap64 (wrap64 (8 * ((x.natAbs / 8 : Nat) : Int)) + (i : Int)) = ((8 * (x.natAbs / 8) + i : Nat) : Int) by unfold wrap64; omega, show wrap64 (-((8 * (x.natAbs / 8) + i : Nat) : Int)) = -((8 * (x.natAbs / 8) + i : Nat) : Int) by unfold wrap64; omega]
    refine ev_ite (fun _ => ?_) (fun _ => ?_)
    · refine Ev.bind (spec_FormatMeasure_ev _) ?_
      refine ev_ite (fun e => ?_) (fun _ => ih (i + 1) (by omega))
      have := pFmt_inj h0 h1 (e.trans (by rw [hs])); omega
    · refine Ev.bind (spec_FormatMeasure_ev _) ?_
      refine ev_ite (fun e => ?_) (fun _ => ih (i + 1) (by omega))
      have := pFmt_inj h0 h1 (e.trans (by rw [hs])); omega
theorem spec_PM_j1_tot (s h : ByteArray) (hh : h.size < 4611686018427387904) (mi : Bool) : ∃ r, Ev (fun k => spec_ParseMeasure.j1 k s h mi) r := by
  obtain ⟨pn, epn⟩ := spec_ParseNumber_tot h hh
  obtain ⟨r, e⟩ := spec_PM_l0_tot s mi pn.1 pn.2 8 0 (by omega)
  refine ⟨r, ev_succ ?_⟩
  simp only [spec_ParseMeasure.j1]
  refine Ev.bind epn ?_
  exact e
theorem ba_drop (h : ByteArray) : (h.extract 1 h.size).data.toList = h.data.toList.drop 1 := by
  rw [ByteArray.data_extract, Array.toList_extract, List.extract_eq_take_drop]
  exact List.take_of_length_le (by rw [List.length_drop, ba_sz]; omega)
theorem spec_PM_j0_tot (s h : ByteArray) (hh : h.size < 4611686018427387904) (mi : Bool) (hm : mi = true → 1 ≤ h.size) : ∃ r, Ev (fun k => spec_ParseMeasure.j0 k s h mi) r := by
  cases mi
  · obtain ⟨r, e⟩ := spec_PM_j1_tot s h hh false
    refine ⟨r, ev_succ ?_⟩
    simp only [spec_ParseMeasure.j0, Bool.false_eq_true, if_false]; exact e
  · have hm' := hm rfl
    have hx : (h.extract 1 h.size).size < 4611686018427387904 := by
      rw [← ba_sz, ba_drop, List.length_drop, ba_sz]; omega
    obtain ⟨r, e⟩ := spec_PM_j1_tot s (h.extract 1 h.size) hx true
    refine ⟨r, ev_succ ?_⟩
    simp only [spec_ParseMeasure.j0, if_true, if_pos (show 1 ≤ (h.size : Int) by omega)]; exact e
theorem spec_ParseMeasure_tot (s : ByteArray) (hs : s.size < 4294967281) : ∃ r, Ev (fun k => spec_ParseMeasure.f k s) r := by
  obtain ⟨L, eL, hL⟩ := spec_SplitAt_ev s 46 hs
  cases hw : splA 46 [] s.data.toList with
  | nil => exact absurd hw (splA_ne _ _ _)
  | cons w ws =>
    rw [hw] at hL
    obtain ⟨a, t, rfl, ha, _⟩ := head_of hL
    have hwl := splA_len 46 s.data.toList [] w (by rw [hw]; simp)
    rw [ba_sz] at hwl
    have haz : a.size = w.length := by rw [← ba_sz, ha]
    have r0 : rdOf ByteArray.empty (a :: t) 0 = a := rfl
    have hlen : (0 : Int) < ((a :: t).length : Int) := by rw [List.length_cons]; omega
    by_cases c : (a.size : Int) > 0
    · obtain ⟨r, e⟩ := spec_PM_j0_tot s a (by simp at hwl; omega) (bt a 0 == 45) (fun _ => by omega)
      refine ⟨r, ?_⟩
      unfold spec_ParseMeasure.f
      refine Ev.bind eL ?_
      simp only [if_pos hlen, r0, if_pos c, if_pos (show (0 : Int) < (a.size : Int) from c)]
      exact e
    · obtain ⟨r, e⟩ := spec_PM_j0_tot s a (by simp at hwl; omega) false (fun h => by cases h)
      refine ⟨r, ?_⟩
      unfold spec_ParseMeasure.f
      refine Ev.bind eL ?_
      simp only [if_pos hlen, r0, if_neg c]
      exact e
theorem split_dot (x : Int) : ∃ ws, splA 46 [] (sgnl x ++ (numl x ++ fracl x)) = (sgnl x ++ numl x) :: ws := by
  rw [← List.append_assoc]
  rcases fracT_cases (x.natAbs % 8) (by omega) with ⟨h, _⟩ | ⟨f, h, hf, _⟩
  · have e : fracl x = [] := h
    rw [e, List.append_nil, splA_last _ _ _ (dot_num x)]
    exact ⟨[], by simp⟩
  · have e : fracl x = 46 :: f := h
    rw [e, splA_word _ _ _ _ (dot_num x)]
    exact ⟨splA 46 [] f, by simp⟩
theorem spec_ParseMeasure_fmt {x : Int} (h0 : -4096 ≤ x) (h1 : x ≤ 4096) : Ev (fun k => spec_ParseMeasure.f k (pFmt x)) (x, true) := by
  have hsz := pFmt_size x
  obtain ⟨L, eL, hL⟩ := spec_SplitAt_ev (pFmt x) 46 (by omega)
  obtain ⟨ws, hw⟩ := split_dot x
  rw [pFmt_list h0 h1, hw] at hL
  obtain ⟨a, t, rfl, ha, _⟩ := head_of hL
  have r0 : rdOf ByteArray.empty (a :: t) 0 = a := rfl
  have hlen : (0 : Int) < ((a :: t).length : Int) := by rw [List.length_cons]; omega
  obtain ⟨b, l, e1, e2⟩ := numl_head x
  have haz : a.size = (sgnl x ++ numl x).length := by rw [← ba_sz, ha]
  have hpos : (a.size : Int) > 0 := by rw [haz, List.length_append, e1]; simp; omega
  have fin : ∀ h : ByteArray, h = pNum ((x.natAbs / 8 : Nat) : Int) → Ev (fun k => spec_ParseMeasure.j1 k (pFmt x) h (decide (x < 0))) (x, true) := by
    intro h hh
    subst hh
    refine ev_succ ?_
    simp only [spec_ParseMeasure.j1]
    refine Ev.bind (spec_ParseNumber_num (x.natAbs / 8) (by omega)) ?_
    exact spec_PM_l0 h0 h1 rfl (x.natAbs % 8) 0 (by omega)
  unfold spec_ParseMeasure.f
  refine Ev.bind eL ?_
  simp only [if_pos hlen, r0, if_pos hpos, if_pos (show (0 : Int) < (a.size : Int) from hpos)]
  by_cases c : x < 0
  · have ha2 : a.data.toList = 45 :: numl x := by rw [ha]; unfold sgnl; rw [if_pos c]; rfl
    rw [bt_head ha2]
    have hx : a.extract 1 a.size = pNum ((x.natAbs / 8 : Nat) : Int) := ba_ext (by rw [ba_drop, ha2]; rfl)
    have f2 := fin _ hx
    rw [decide_eq_true c] at f2
    refine ev_succ ?_
    rw [show (((45 : UInt8).toNat : Int) == 45) = true from rfl]
    simp only [spec_ParseMeasure.j0, if_true, if_pos (show 1 ≤ (a.size : Int) by omega)]
    exact f2
  · have ha2 : a.data.toList = b :: l := by rw [ha]; unfold sgnl; rw [if_neg c, e1]; rfl
    rw [bt_head ha2]
    have hx : a = pNum ((x.natAbs / 8 : Nat) : Int) := ba_ext (by rw [ha]; unfold sgnl; rw [if_neg c]; rfl)
    have f2 := fin _ hx
    rw [decide_eq_false c] at f2
    have hb : ((b.toNat : Int) == 45) = false := by
      rw [beq_eq_false_iff_ne]
      intro hh
      have : b.toNat = (45 : UInt8).toNat := by have : (45 : UInt8).toNat = 45 := rfl; omega
      exact e2 (UInt8.toNat_inj.1 this)
    refine ev_succ ?_
    rw [hb]
    simp only [spec_ParseMeasure.j0, Bool.false_eq_true, if_false]
    exact f2
theorem nmR_bytes {a : ByteArray} : ∀ (d i : Nat), i + d = a.size → nmR a d i = true → ∀ j, i ≤ j → j < a.size → 48 ≤ bt a (j : Int) ∧ bt a (j : Int) ≤ 122
  | 0, i, h, _, j, h1, h2 => by omega
  | d + 1, i, h, hn, j, h1, h2 => by
    unfold nmR at hn
    rw [Bool.and_eq_true] at hn
    by_cases e : j = i
    · subst e
      have := hn.1
      simp only [nmC, Bool.or_eq_true, Bool.and_eq_true, decide_eq_true_eq] at this
      omega
    · exact nmR_bytes d (i + 1) (by omega) hn.2 j (by omega) h2
/-- A name has neither a blank nor a point. -/
theorem name_bytes {a : ByteArray} (h : pName a = true) : ∀ b ∈ a.data.toList, 48 ≤ b.toNat := by
  intro b hb
  obtain ⟨j, hj, e⟩ := List.mem_iff_getElem.1 hb
  have hj' : j < a.size := by rw [← ba_sz]; exact hj
  have := nmR_bytes a.size 0 (by omega) h j (by omega) hj'
  unfold bt at this
  rw [dif_pos (show (j : Int).toNat < a.size by rw [Int.toNat_natCast]; exact hj')] at this
  have e2 : a[(j : Int).toNat]'(by rw [Int.toNat_natCast]; exact hj') = b := by
    rw [← e]; rfl
  rw [e2] at this
  omega
theorem no_blank {l : List UInt8} (h : ∀ b ∈ l, 33 ≤ b.toNat) : (32 : UInt8) ∉ l := fun m => by
  have := h _ m
  exact absurd this (by decide)
theorem fmt_bytes (x : Int) : ∀ b ∈ (pFmt x).data.toList, 33 ≤ b.toNat := by
  intro b hb
  by_cases h : -4096 ≤ x ∧ x ≤ 4096
  · rw [pFmt_list h.1 h.2] at hb
    rcases List.mem_append.1 hb with hb | hb
    · unfold sgnl at hb
      split at hb
      · rw [List.mem_singleton] at hb; subst hb; decide
      · cases hb
    · rcases List.mem_append.1 hb with hb | hb
      · have := num_digits _ b hb; omega
      · rcases fracT_cases (x.natAbs % 8) (by omega) with ⟨e, _⟩ | ⟨f, e, _, hf⟩
        · unfold fracl at hb; rw [e] at hb; cases hb
        · unfold fracl at hb; rw [e] at hb
          rcases List.mem_cons.1 hb with rfl | hb
          · decide
          · have := hf b hb; omega
  · unfold pFmt at hb; rw [if_neg h] at hb; cases hb
theorem num_bytes (n : Nat) : ∀ b ∈ (pNum (n : Int)).data.toList, 33 ≤ b.toNat := fun b hb => by have := num_digits n b hb; omega
theorem Ev_uniq {α : Type} {g : Nat → Option α} {a b : α} (h : Ev g a) (h' : Ev g b) : a = b := by
  obtain ⟨K, hK⟩ := h
  obtain ⟨K', hK'⟩ := h'
  have e1 := hK (max K K') (by omega)
  have e2 := hK' (max K K') (by omega)
  rw [e1] at e2; exact Option.some.inj e2
theorem lastS_mid {t rest : List UInt8} {c : UInt8} (hc : Ty.isSg c = true) (hr : ∀ b ∈ rest, Ty.isSg b = false) : Ty.lastS (t ++ c :: rest) = (t.length : Int) := by
  have key : ∀ (r : List UInt8), (∀ b ∈ r, Ty.isSg b = false) → ∀ u, Ty.lastS (u ++ r) = Ty.lastS u := by
    intro r
    induction r with
    | nil => intro _ u; rw [List.append_nil]
    | cons b r ih =>
      intro h u
      rw [show u ++ b :: r = (u ++ [b]) ++ r by simp, ih (fun x hx => h x (List.mem_cons_of_mem _ hx)), Ty.lastS_snoc, h b (by simp)]; simp
  rw [show t ++ c :: rest = (t ++ [c]) ++ rest by simp, key rest hr, Ty.lastS_snoc, hc]; simp
theorem bt_get {s : ByteArray} {i : Nat} {b : UInt8} (h : s.data.toList[i]? = some b) : bt s (i : Int) = (b.toNat : Int) := by
  have hi : i < s.size := by
    rcases Nat.lt_or_ge i s.size with c | c
    · exact c
    · rw [List.getElem?_eq_none (by rw [ba_sz]; exact c)] at h; cases h
  unfold bt
  rw [dif_pos (show (i : Int).toNat < s.size by rw [Int.toNat_natCast]; exact hi)]
  have e : s[(i : Int).toNat]'(by rw [Int.toNat_natCast]; exact hi) = b := by
    have h2 : s.data.toList[i]'(by rw [ba_sz]; exact hi) = b := by
      rw [List.getElem?_eq_getElem (by rw [ba_sz]; exact hi)] at h; exact Option.some.inj h
    rw [← h2]; rfl
  rw [e]
theorem ex_list (s : ByteArray) (a b : Nat) : (s.extract a b).data.toList = (s.data.toList.drop a).take (b - a) := by
  rw [ByteArray.data_extract, Array.toList_extract, List.extract_eq_take_drop]
theorem ex_size (s : ByteArray) (a b : Nat) : (s.extract a b).size ≤ s.size := by
  rw [← ba_sz, ex_list, List.length_take, List.length_drop, ba_sz]; omega
def ascii (s : ByteArray) : Prop := ∀ b ∈ s.data.toList, b.toNat < 128
theorem ascii_all {s : ByteArray} (h : ascii s) : (s.data.toList.all (fun b => decide (b.toNat < 128))) = true := List.all_eq_true.2 (fun b hb => decide_eq_true (h b hb))
theorem tp_size (t p : ByteArray) : (⟨(Go.Lib.trimPrefix t.data.toList p.data.toList).toArray⟩ : ByteArray).size ≤ t.size := by
  show (Array.size _) ≤ _
  rw [List.size_toArray, ← ba_sz t]; exact trimPrefix_le _ _
theorem impl_PP_j0_tot (s : ByteArray) (hs : s.size < 4294967281) (at_ : Int) (h1 : 1 ≤ at_) (h2 : at_ < s.size) (b : Bool) : ∃ r, Ev (fun k => impl_ParsePlace.j0 k s at_ b) r := by
  cases b
  · obtain ⟨p, ep⟩ := impl_ParseMeasure_tot (s.extract 0 at_.toNat) (by have := ex_size s 0 at_.toNat; omega)
    have hw : wrap64 ((s.size : Int) - 1) = ((s.size - 1 : Nat) : Int) := by unfold wrap64; omega
    have hz : (⟨(Go.Lib.trimPrefix (s.extract at_.toNat (s.size - 1)).data.toList (⟨#[43]⟩ : ByteArray).data.toList).toArray⟩ : ByteArray).size < 4294967281 := by
      have := tp_size (s.extract at_.toNat (s.size - 1)) (⟨#[43]⟩ : ByteArray)
      have := ex_size s at_.toNat (s.size - 1)
      omega
    obtain ⟨q, eq⟩ := impl_ParseMeasure_tot _ hz
    have pre : ∀ r, Ev (fun k => if p.2 = true then (if q.2 = true then ((impl_FormatPlace.f k p.1 q.1).bind fun t396 => (if t396.toList = s.toList then (some (p.1, q.1, true)) else (some ((0 : Int), (0 : Int), false)))) else (some (0, 0, false))) else (some (0, 0, false))) r → Ev (fun k => impl_ParsePlace.j0 k s at_ false) r := by
      intro r e
      refine ev_succ ?_
      simp only [impl_ParsePlace.j0, Bool.false_eq_true, if_false, if_pos (show 0 ≤ at_ by omega), if_pos (show at_ ≤ (s.size : Int) by omega)]
      refine Ev.bind ep ?_
      simp only [hw, if_pos (show at_ ≤ ((s.size - 1 : Nat) : Int) by omega), if_pos (show ((s.size - 1 : Nat) : Int) ≤ (s.size : Int) by omega), strings_TrimPrefix.f, Option.bind_some, Int.toNat_natCast]
      refine Ev.bind eq ?_
      exact e
    by_cases c1 : p.2 = true
    · by_cases c2 : q.2 = true
      · by_cases c3 : (pPlaceT p.1 q.1).toList = s.toList
        · refine ⟨(p.1, q.1, true), pre _ ?_⟩
          simp only [if_pos c1, if_pos c2]
          refine Ev.bind (impl_FormatPlace_ev _ _) ?_
          simp only [if_pos c3]; exact Ev.now _
        · refine ⟨((0 : Int), (0 : Int), false), pre _ ?_⟩
          simp only [if_pos c1, if_pos c2]
          refine Ev.bind (impl_FormatPlace_ev _ _) ?_
          simp only [if_neg c3]; exact Ev.now _
      · refine ⟨((0 : Int), (0 : Int), false), pre _ ?_⟩
        simp only [if_pos c1, if_neg c2]; exact Ev.now _
    · refine ⟨((0 : Int), (0 : Int), false), pre _ ?_⟩
      simp only [if_neg c1]; exact Ev.now _
  · refine ⟨((0 : Int), (0 : Int), false), ev_succ ?_⟩
    simp only [impl_ParsePlace.j0, if_true]; exact Ev.now _
theorem impl_ParsePlace_tot (s : ByteArray) (hs : s.size < 4294967281) : ∃ r, Ev (fun k => impl_ParsePlace.f k s) r := by
  obtain ⟨l0, l1⟩ := Ty.lastS_le s.data.toList
  rw [ba_sz] at l1
  have eL : strings_LastIndexAny.f s (⟨#[43, 45]⟩ : ByteArray) = some (Ty.lastS s.data.toList) := by
    unfold strings_LastIndexAny.f; rw [if_pos ⟨rfl, hs⟩]
  generalize Ty.lastS s.data.toList = at_ at l0 l1 eL
  by_cases c : at_ < 1
  · refine ⟨((0 : Int), (0 : Int), false), ?_⟩
    simp only [impl_ParsePlace.f, eL, Option.bind_some, if_pos c]
    refine ev_succ ?_
    simp only [impl_ParsePlace.j0, if_true]; exact Ev.now _
  · have hw : wrap64 ((s.size : Int) - 1) = (s.size : Int) - 1 := by unfold wrap64; omega
    obtain ⟨r, e⟩ := impl_PP_j0_tot s hs at_ (by omega) l1 (bt s ((s.size : Int) - 1) != 105)
    refine ⟨r, ?_⟩
    simp only [impl_ParsePlace.f, eL, Option.bind_some, if_neg c, hw, if_pos (show 0 ≤ (s.size : Int) - 1 by omega), if_pos (show (s.size : Int) - 1 < (s.size : Int) by omega)]
    exact e
theorem num_nosg {l : List UInt8} (h : ∀ b ∈ l, 46 ≤ b.toNat) : ∀ b ∈ l, Ty.isSg b = false := fun b hb => by
  have h1 := h b hb
  unfold Ty.isSg
  have e1 : ¬ b = 43 := fun e => by rw [e] at h1; exact absurd h1 (by decide)
  have e2 : ¬ b = 45 := fun e => by rw [e] at h1; exact absurd h1 (by decide)
  simp [e1, e2]
theorem nf_bytes (x : Int) : ∀ b ∈ numl x ++ fracl x, 46 ≤ b.toNat := by
  intro b hb
  rcases List.mem_append.1 hb with hb | hb
  · have := num_digits _ b hb; omega
  · rcases fracT_cases (x.natAbs % 8) (by omega) with ⟨e, _⟩ | ⟨f, e, _, hf⟩
    · unfold fracl at hb; rw [e] at hb; cases hb
    · unfold fracl at hb; rw [e] at hb
      rcases List.mem_cons.1 hb with rfl | hb
      · decide
      · have := hf b hb; omega
/-- A place's text: what stands before the last sign, the sign, the rest, 'i'. -/
theorem place_parts {x y : Int} (h : pPlace x y = true) : ∃ c rest, (pPlaceT x y).data.toList = (pFmt x).data.toList ++ c :: (rest ++ [105]) ∧ Ty.isSg c = true ∧ (∀ b ∈ rest, 46 ≤ b.toNat) ∧ Go.Lib.trimPrefix (c :: rest) [43] = (pFmt y).data.toList := by
  simp only [pPlace, Bool.and_eq_true, decide_eq_true_eq] at h
  have hy := pFmt_list h.2.1 h.2.2
  have hp : pPlace x y = true := by simp only [pPlace, Bool.and_eq_true, decide_eq_true_eq]; exact h
  unfold pPlaceT
  rw [if_pos hp]
  by_cases c : y < 0
  · refine ⟨45, numl y ++ fracl y, ?_, rfl, nf_bytes y, ?_⟩
    · rw [if_pos c, ByteArray.data_append, ByteArray.data_append, ByteArray.data_append, Array.toList_append, Array.toList_append, Array.toList_append, hy]
      unfold sgnl
      rw [if_pos c]
      simp
    · rw [hy]
      unfold sgnl
      rw [if_pos c]
      unfold Go.Lib.trimPrefix Go.Lib.hasPrefix
      simp [List.isPrefixOf]
  · refine ⟨43, numl y ++ fracl y, ?_, rfl, nf_bytes y, ?_⟩
    · rw [if_neg c, ByteArray.data_append, ByteArray.data_append, ByteArray.data_append, Array.toList_append, Array.toList_append, Array.toList_append, hy]
      unfold sgnl
      rw [if_neg c]
      simp
    · rw [hy]
      unfold sgnl
      rw [if_neg c]
      unfold Go.Lib.trimPrefix Go.Lib.hasPrefix
      simp [List.isPrefixOf]
theorem fmt_ascii (x : Int) : ∀ b ∈ (pFmt x).data.toList, b.toNat < 128 := by
  intro b hb
  by_cases h : -4096 ≤ x ∧ x ≤ 4096
  · rw [pFmt_list h.1 h.2] at hb
    rcases List.mem_append.1 hb with hb | hb
    · unfold sgnl at hb
      split at hb
      · rw [List.mem_singleton] at hb; subst hb; decide
      · cases hb
    · rcases List.mem_append.1 hb with hb | hb
      · have := num_digits _ b hb; omega
      · rcases fracT_cases (x.natAbs % 8) (by omega) with ⟨e, _⟩ | ⟨f, e, _, hf⟩
        · unfold fracl at hb; rw [e] at hb; cases hb
        · unfold fracl at hb; rw [e] at hb
          rcases List.mem_cons.1 hb with rfl | hb
          · decide
          · have := hf b hb; omega
  · unfold pFmt at hb; rw [if_neg h] at hb; cases hb
theorem place_ascii (x y : Int) : ascii (pPlaceT x y) := by
  intro b hb
  unfold pPlaceT at hb
  split at hb
  · rw [ByteArray.data_append, ByteArray.data_append, ByteArray.data_append, Array.toList_append, Array.toList_append, Array.toList_append] at hb
    rcases List.mem_append.1 hb with hb | hb
    · rcases List.mem_append.1 hb with hb | hb
      · rcases List.mem_append.1 hb with hb | hb
        · exact fmt_ascii x b hb
        · split at hb
          · cases hb
          · rw [show (⟨#[43]⟩ : ByteArray).data.toList = [43] from rfl, List.mem_singleton] at hb; subst hb; decide
      · exact fmt_ascii y b hb
    · rw [show (⟨#[105]⟩ : ByteArray).data.toList = [105] from rfl, List.mem_singleton] at hb; subst hb; decide
  · cases hb
theorem impl_ParsePlace_fmt {x y : Int} (h : pPlace x y = true) : Ev (fun k => impl_ParsePlace.f k (pPlaceT x y)) (x, y, true) := by
  obtain ⟨c, rest, hl, hc, hr, ht⟩ := place_parts h
  have hsz := pPlaceT_size x y
  have hb := h
  simp only [pPlace, Bool.and_eq_true, decide_eq_true_eq] at hb
  have eL : strings_LastIndexAny.f (pPlaceT x y) (⟨#[43, 45]⟩ : ByteArray) = some (((pFmt x).data.toList.length : Nat) : Int) := by
    unfold strings_LastIndexAny.f
    rw [if_pos ⟨rfl, by omega⟩, hl, lastS_mid hc]
    intro b hb
    rcases List.mem_append.1 hb with hb | hb
    · exact num_nosg hr b hb
    · rw [List.mem_singleton] at hb; subst hb; rfl
  have hfx : 1 ≤ (pFmt x).data.toList.length := by
    rw [pFmt_list hb.1.1 hb.1.2, List.length_append, List.length_append]
    have := List.length_pos_iff.2 (numl_ne x); omega
  have hz : (pPlaceT x y).size = (pFmt x).data.toList.length + (rest.length + 2) := by
    rw [← ba_sz, hl]; simp
  generalize hn : (pFmt x).data.toList.length = n at hfx hz eL
  have hw : wrap64 (((pPlaceT x y).size : Int) - 1) = (((pPlaceT x y).size - 1 : Nat) : Int) := by unfold wrap64; omega
  have hlast : bt (pPlaceT x y) (((pPlaceT x y).size - 1 : Nat) : Int) = 105 := by
    have : (pPlaceT x y).data.toList[(pPlaceT x y).size - 1]? = some 105 := by
      rw [hl, hz, ← hn, show (pFmt x).data.toList.length + (rest.length + 2) - 1 = ((pFmt x).data.toList ++ c :: rest).length by simp <;> omega, show (pFmt x).data.toList ++ c :: (rest ++ [105]) = ((pFmt x).data.toList ++ c :: rest) ++ [105] by simp]
      simp
    rw [bt_get this]; rfl
  have e1 : (pPlaceT x y).extract 0 n = pFmt x := ba_ext (by rw [ex_list, hl, List.drop_zero, Nat.sub_zero, ← hn, List.take_left])
  have e2 : ((pPlaceT x y).extract n ((pPlaceT x y).size - 1)).data.toList = c :: rest := by
    rw [ex_list, hl, hz, ← hn, List.drop_left, show (pFmt x).data.toList.length + (rest.length + 2) - 1 - (pFmt x).data.toList.length = (c :: rest).length by simp <;> omega, show c :: (rest ++ [105]) = (c :: rest) ++ [105] by simp, List.take_left]
  simp only [impl_ParsePlace.f, eL, Option.bind_some, if_neg (show ¬ (n : Int) < 1 by omega), hw, if_pos (nn _), if_pos (show (((pPlaceT x y).size - 1 : Nat) : Int) < ((pPlaceT x y).size : Int) by omega), hlast]
  rw [show ((105 : Int) != 105) = false from rfl]
  refine ev_succ ?_
  simp only [impl_ParsePlace.j0, Bool.false_eq_true, if_false, if_pos (nn _), if_pos (show (n : Int) ≤ ((pPlaceT x y).size : Int) by omega), Int.toNat_natCast, e1]
  refine Ev.bind (impl_ParseMeasure_fmt hb.1.1 hb.1.2) ?_
  simp only [hw, if_pos (show (n : Int) ≤ (((pPlaceT x y).size - 1 : Nat) : Int) by omega), if_pos (show (((pPlaceT x y).size - 1 : Nat) : Int) ≤ ((pPlaceT x y).size : Int) by omega), strings_TrimPrefix.f, Option.bind_some, Int.toNat_natCast, e2]
  rw [show (⟨(Go.Lib.trimPrefix (c :: rest) (⟨#[43]⟩ : ByteArray).data.toList).toArray⟩ : ByteArray) = pFmt y from ba_ext (by show Go.Lib.trimPrefix (c :: rest) [43] = _; exact ht)]
  refine Ev.bind (impl_ParseMeasure_fmt hb.2.1 hb.2.2) ?_
  simp only [if_true]
  refine Ev.bind (impl_FormatPlace_ev x y) ?_
  simp only [if_true]
  exact Ev.now _
theorem place_bytes (x y : Int) : ∀ b ∈ (pPlaceT x y).data.toList, 33 ≤ b.toNat := by
  intro b hb
  unfold pPlaceT at hb
  split at hb
  · rw [ByteArray.data_append, ByteArray.data_append, ByteArray.data_append, Array.toList_append, Array.toList_append, Array.toList_append] at hb
    rcases List.mem_append.1 hb with hb | hb
    · rcases List.mem_append.1 hb with hb | hb
      · rcases List.mem_append.1 hb with hb | hb
        · exact fmt_bytes x b hb
        · split at hb
          · cases hb
          · rw [show (⟨#[43]⟩ : ByteArray).data.toList = [43] from rfl, List.mem_singleton] at hb; subst hb; decide
      · exact fmt_bytes y b hb
    · rw [show (⟨#[105]⟩ : ByteArray).data.toList = [105] from rfl, List.mem_singleton] at hb; subst hb; decide
  · cases hb
def wPump : List UInt8 := [112, 117, 109, 112]
def wNozzle : List UInt8 := [110, 111, 122, 122, 108, 101]
def wLamp : List UInt8 := [108, 97, 109, 112]
def wMost : List UInt8 := [109, 111, 115, 116]
def wOn : List UInt8 := [111, 110]
def wAt : List UInt8 := [97, 116]
def wHead : List UInt8 := [104, 101, 97, 100, 105, 110, 103]
def wTilt : List UInt8 := [116, 105, 108, 116]
theorem wl_blank : (32 : UInt8) ∉ wPump ∧ (32 : UInt8) ∉ wNozzle ∧ (32 : UInt8) ∉ wLamp ∧ (32 : UInt8) ∉ wMost ∧ (32 : UInt8) ∉ wOn ∧ (32 : UInt8) ∉ wAt ∧ (32 : UInt8) ∉ wHead ∧ (32 : UInt8) ∉ wTilt := by decide
theorem tl_words : tPump.data.toList = wPump ++ [32] ∧ tNozzle.data.toList = wNozzle ++ [32] ∧ tLamp.data.toList = wLamp ++ [32] ∧ tMost.data.toList = 32 :: (wMost ++ [32]) ∧ tOn.data.toList = 32 :: (wOn ++ [32]) ∧ tAt.data.toList = 32 :: (wAt ++ [32]) ∧ tHead.data.toList = 32 :: (wHead ++ [32]) ∧ tTilt.data.toList = 32 :: (wTilt ++ [32]) := ⟨rfl, rfl, rfl, rfl, rfl, rfl, rfl, rfl⟩
theorem name_blank {a : ByteArray} (h : pName a = true) : (32 : UInt8) ∉ a.data.toList := no_blank (fun b hb => by have := name_bytes h b hb; omega)
theorem dev_name {n : ByteArray} {kd : Int} {ln : ByteArray} {x y hd ti mo : Int} (h : pDevice n kd ln x y hd ti mo = true) : pName n = true ∧ (kd = 1 ∨ ((kd = 2 ∨ kd = 3) ∧ pName ln = true)) := by
  unfold pDevice at h
  rw [Bool.and_eq_true] at h
  refine ⟨h.1, ?_⟩
  have h2 := h.2
  by_cases k1 : kd = 1
  · exact .inl k1
  · rw [if_neg k1] at h2
    by_cases k2 : kd = 2
    · rw [if_pos k2] at h2
      simp only [pLineOk, Bool.and_eq_true] at h2
      exact .inr ⟨.inl k2, h2.1.1⟩
    · rw [if_neg k2] at h2
      by_cases k3 : kd = 3
      · rw [if_pos k3] at h2
        simp only [pLineOk, Bool.and_eq_true] at h2
        exact .inr ⟨.inr k3, h2.1.1⟩
      · rw [if_neg k3] at h2; cases h2
theorem hd_blank {hd : Int} (h0 : 0 ≤ hd) : (32 : UInt8) ∉ (pNum hd).data.toList := by
  rw [show hd = ((hd.toNat : Nat) : Int) by omega]; exact no_blank (num_bytes _)
theorem pump_words {n : ByteArray} {ln : ByteArray} {x y hd ti mo : Int} (h : pDevice n 1 ln x y hd ti mo = true) : splA 32 [] (pDevT n 1 ln x y hd ti mo).data.toList = [wPump, n.data.toList, wMost, (pFmt mo).data.toList] := by
  obtain ⟨b1, b2, b3, b4, b5, b6, b7, b8⟩ := wl_blank
  obtain ⟨t1, t2, t3, t4, t5, t6, t7, t8⟩ := tl_words
  have hn := name_blank (dev_name h).1
  unfold pDevT
  rw [if_pos h, if_pos rfl]
  have e : (tPump ++ n ++ tMost ++ pFmt mo).data.toList = wPump ++ 32 :: (n.data.toList ++ 32 :: (wMost ++ 32 :: (pFmt mo).data.toList)) := by
    simp only [ByteArray.data_append, Array.toList_append, t1, t4, List.append_assoc, List.cons_append, List.nil_append]
  rw [e, splA_word _ _ _ _ b1, splA_word _ _ _ _ hn, splA_word _ _ _ _ b4, splA_last _ _ _ (no_blank (fmt_bytes mo))]; rfl
theorem nozzle_words {n : ByteArray} {ln : ByteArray} {x y hd ti mo : Int} (h : pDevice n 2 ln x y hd ti mo = true) : splA 32 [] (pDevT n 2 ln x y hd ti mo).data.toList = [wNozzle, n.data.toList, wOn, ln.data.toList, wAt, (pPlaceT x y).data.toList, wHead, (pNum hd).data.toList, wTilt, (pFmt ti).data.toList, wMost, (pFmt mo).data.toList] := by
  obtain ⟨b1, b2, b3, b4, b5, b6, b7, b8⟩ := wl_blank
  obtain ⟨t1, t2, t3, t4, t5, t6, t7, t8⟩ := tl_words
  obtain ⟨hn0, hk⟩ := dev_name h
  have hn := name_blank hn0
  have hl : (32 : UInt8) ∉ ln.data.toList := by
    rcases hk with hk | ⟨_, hk⟩
    · cases hk
    · exact name_blank hk
  obtain ⟨h0, _⟩ := (pDev_num h).2.2 rfl
  unfold pDevT
  rw [if_pos h, if_neg (by decide), if_pos rfl]
  have e : (tNozzle ++ n ++ tOn ++ ln ++ tAt ++ pPlaceT x y ++ tHead ++ pNum hd ++ tTilt ++ pFmt ti ++ tMost ++ pFmt mo).data.toList = wNozzle ++ 32 :: (n.data.toList ++ 32 :: (wOn ++ 32 :: (ln.data.toList ++ 32 :: (wAt ++ 32 :: ((pPlaceT x y).data.toList ++ 32 :: (wHead ++ 32 :: ((pNum hd).data.toList ++ 32 :: (wTilt ++ 32 :: ((pFmt ti).data.toList ++ 32 :: (wMost ++ 32 :: (pFmt mo).data.toList)))))))))) := by
    simp only [ByteArray.data_append, Array.toList_append, t2, t4, t5, t6, t7, t8, List.append_assoc, List.cons_append, List.nil_append]
  rw [e, splA_word _ _ _ _ b2, splA_word _ _ _ _ hn, splA_word _ _ _ _ b5, splA_word _ _ _ _ hl, splA_word _ _ _ _ b6, splA_word _ _ _ _ (no_blank (place_bytes x y)), splA_word _ _ _ _ b7, splA_word _ _ _ _ (hd_blank h0), splA_word _ _ _ _ b8, splA_word _ _ _ _ (no_blank (fmt_bytes ti)), splA_word _ _ _ _ b4, splA_last _ _ _ (no_blank (fmt_bytes mo))]; rfl
theorem lamp_words {n : ByteArray} {ln : ByteArray} {x y hd ti mo : Int} (h : pDevice n 3 ln x y hd ti mo = true) : splA 32 [] (pDevT n 3 ln x y hd ti mo).data.toList = [wLamp, n.data.toList, wOn, ln.data.toList, wAt, (pPlaceT x y).data.toList] := by
  obtain ⟨b1, b2, b3, b4, b5, b6, b7, b8⟩ := wl_blank
  obtain ⟨t1, t2, t3, t4, t5, t6, t7, t8⟩ := tl_words
  obtain ⟨hn0, hk⟩ := dev_name h
  have hn := name_blank hn0
  have hl : (32 : UInt8) ∉ ln.data.toList := by
    rcases hk with hk | ⟨_, hk⟩
    · cases hk
    · exact name_blank hk
  unfold pDevT
  rw [if_pos h, if_neg (by decide), if_neg (by decide)]
  have e : (tLamp ++ n ++ tOn ++ ln ++ tAt ++ pPlaceT x y).data.toList = wLamp ++ 32 :: (n.data.toList ++ 32 :: (wOn ++ 32 :: (ln.data.toList ++ 32 :: (wAt ++ 32 :: (pPlaceT x y).data.toList)))) := by
    simp only [ByteArray.data_append, Array.toList_append, t3, t5, t6, List.append_assoc, List.cons_append, List.nil_append]
  rw [e, splA_word _ _ _ _ b3, splA_word _ _ _ _ hn, splA_word _ _ _ _ b5, splA_word _ _ _ _ hl, splA_word _ _ _ _ b6, splA_last _ _ _ (no_blank (place_bytes x y))]; rfl
abbrev DRes := ByteArray × Int × ByteArray × Int × Int × Int × Int × Int × Bool
def zeroR : DRes := ((⟨#[]⟩ : ByteArray), 0, (⟨#[]⟩ : ByteArray), 0, 0, 0, 0, 0, false)
def devRes (s : ByteArray) (r : DRes) : Prop := r = zeroR ∨ (r.2.2.2.2.2.2.2.2 = true ∧ pDevice r.1 r.2.1 r.2.2.1 r.2.2.2.1 r.2.2.2.2.1 r.2.2.2.2.2.1 r.2.2.2.2.2.2.1 r.2.2.2.2.2.2.2.1 = true ∧ (pDevT r.1 r.2.1 r.2.2.1 r.2.2.2.1 r.2.2.2.2.1 r.2.2.2.2.2.1 r.2.2.2.2.2.2.1 r.2.2.2.2.2.2.2.1).toList = s.toList)
/-- The last test of a parser of devices. -/
theorem dev_last {s : ByteArray} {n ln : ByteArray} {kd x y hd ti mo : Int} {F : Nat → Option ByteArray} (hF : Ev F (pDevT n kd ln x y hd ti mo)) : ∃ r : DRes, Ev (fun k => if s.toList = ([] : List UInt8) then (some ((⟨#[]⟩ : ByteArray), (0 : Int), (⟨#[]⟩ : ByteArray), (0 : Int), (0 : Int), (0 : Int), (0 : Int), (0 : Int), false)) else ((F k).bind fun t => (if t.toList = s.toList then (some (n, kd, ln, x, y, hd, ti, mo, true)) else (some ((⟨#[]⟩ : ByteArray), 0, (⟨#[]⟩ : ByteArray), 0, 0, 0, 0, 0, false))))) r ∧ devRes s r := by
  by_cases c0 : s.toList = ([] : List UInt8)
  · refine ⟨zeroR, ?_, .inl rfl⟩
    simp only [if_pos c0]; exact Ev.now _
  · by_cases c1 : (pDevT n kd ln x y hd ti mo).toList = s.toList
    · refine ⟨(n, kd, ln, x, y, hd, ti, mo, true), ?_, .inr ⟨rfl, ?_, c1⟩⟩
      · simp only [if_neg c0]
        refine Ev.bind hF ?_
        simp only [if_pos c1]; exact Ev.now _
      · show pDevice n kd ln x y hd ti mo = true
        by_cases c : pDevice n kd ln x y hd ti mo = true
        · exact c
        · unfold pDevT at c1
          rw [if_neg c] at c1
          exact absurd c1.symm (by rw [ba_tl (⟨#[]⟩ : ByteArray)]; exact c0)
    · refine ⟨zeroR, ?_, .inl rfl⟩
      simp only [if_neg c0]
      refine Ev.bind hF ?_
      simp only [if_neg c1]; exact Ev.now _
theorem splA_mem (c : UInt8) : ∀ (l p w : List UInt8), w ∈ splA c p l → ∀ b ∈ w, b ∈ p ∨ b ∈ l
  | [], p, w, h, b, hb => by simp [splA] at h; subst h; exact .inl hb
  | a :: l, p, w, h, b, hb => by
    rw [splA] at h
    split at h
    · rcases List.mem_cons.1 h with rfl | h
      · exact .inl hb
      · rcases splA_mem c l [] w h b hb with h | h
        · cases h
        · exact .inr (List.mem_cons_of_mem _ h)
    · rcases splA_mem c l _ w h b hb with h | h
      · rcases List.mem_append.1 h with h | h
        · exact .inl h
        · rw [List.mem_singleton] at h; exact .inr (by rw [h]; simp)
      · exact .inr (List.mem_cons_of_mem _ h)
/-- What the words of a text are: no longer than it, and of its bytes. -/
def wordsOk (s : ByteArray) (L : List ByteArray) : Prop := ∀ i : Nat, i < L.length → (rdOf ByteArray.empty L (i : Int)).size ≤ s.size ∧ (ascii s → ascii (rdOf ByteArray.empty L (i : Int)))
theorem words_ok {s : ByteArray} {L : List ByteArray} (hL : L.map (fun x => x.data.toList) = splA 32 [] s.data.toList) : wordsOk s L := by
  intro i hi
  have hm : rdOf ByteArray.empty L (i : Int) ∈ L := by
    unfold rdOf
    rw [Int.toNat_natCast, List.getD_eq_getElem?_getD, List.getElem?_eq_getElem hi, Option.getD_some]
    exact List.getElem_mem _
  have h2 : (rdOf ByteArray.empty L (i : Int)).data.toList ∈ splA 32 [] s.data.toList := by rw [← hL]; exact List.mem_map.2 ⟨_, hm, rfl⟩
  refine ⟨?_, fun ha b hb => ?_⟩
  · have := splA_len _ _ _ _ h2
    rw [ba_sz, ba_sz] at this; simpa using this
  · rcases splA_mem _ _ _ _ h2 b hb with h | h
    · cases h
    · exact ha b h
theorem impl_PD_j2 (s : ByteArray) (hs : s.size < 4294967281) (L : List ByteArray) (hw : wordsOk s L) (b : Bool) (hb : b = true → L.length = 6) : ∃ r : DRes, Ev (fun k => impl_ParseDevice.j2 k s L b (⟨#[]⟩ : ByteArray) 0 (⟨#[]⟩ : ByteArray) 0 0 0 0 0) r ∧ devRes s r := by
  cases b
  · obtain ⟨r, e, h⟩ := dev_last (s := s) (impl_FormatDevice_ev (⟨#[]⟩ : ByteArray) 0 (⟨#[]⟩ : ByteArray) 0 0 0 0 0 (by decide) (by decide))
    refine ⟨r, ev_succ ?_, h⟩
    simp only [impl_ParseDevice.j2, Bool.false_eq_true, if_false]
    exact e
  · have hl := hb rfl
    obtain ⟨p, ep⟩ := impl_ParsePlace_tot (rdOf ByteArray.empty L 5) (by have : (rdOf ByteArray.empty L 5).size ≤ s.size := (hw 5 (by omega)).1; omega)
    have z1 : (rdOf ByteArray.empty L 1).size ≤ 9223372036854775807 := by have : (rdOf ByteArray.empty L 1).size ≤ s.size := (hw 1 (by omega)).1; exact Nat.le_trans this (by omega)
    have z3 : (rdOf ByteArray.empty L 3).size ≤ 9223372036854775807 := by have : (rdOf ByteArray.empty L 3).size ≤ s.size := (hw 3 (by omega)).1; exact Nat.le_trans this (by omega)
    obtain ⟨r, e, h⟩ := dev_last (s := s) (impl_FormatDevice_ev (rdOf ByteArray.empty L 1) 3 (rdOf ByteArray.empty L 3) p.1 p.2.1 0 0 0 z1 z3)
    refine ⟨r, ev_succ ?_, h⟩
    simp only [impl_ParseDevice.j2, if_true, if_pos (show 5 < (L.length : Int) by omega)]
    refine Ev.bind ep ?_
    simp only [if_pos (show 1 < (L.length : Int) by omega), if_pos (show 3 < (L.length : Int) by omega)]
    exact e
theorem impl_PD_j1 (s : ByteArray) (hs : s.size < 4294967281) (L : List ByteArray) (hw : wordsOk s L) (b : Bool) (hb : b = true → L.length = 12) : ∃ r : DRes, Ev (fun k => impl_ParseDevice.j1 k s L b (⟨#[]⟩ : ByteArray) 0 (⟨#[]⟩ : ByteArray) 0 0 0 0 0) r ∧ devRes s r := by
  cases b
  · by_cases c6 : L.length = 6
    · obtain ⟨r, e, h⟩ := impl_PD_j2 s hs L hw ((rdOf ByteArray.empty L 0).toList == ([108, 97, 109, 112] : List UInt8)) (fun _ => c6)
      refine ⟨r, ev_succ ?_, h⟩
      simp only [impl_ParseDevice.j1, Bool.false_eq_true, if_false, if_pos (show (L.length : Int) = 6 by omega), if_pos (show 0 < (L.length : Int) by omega)]
      exact e
    · obtain ⟨r, e, h⟩ := impl_PD_j2 s hs L hw false (fun h => by cases h)
      refine ⟨r, ev_succ ?_, h⟩
      simp only [impl_ParseDevice.j1, Bool.false_eq_true, if_false, if_neg (show ¬ (L.length : Int) = 6 by omega)]
      exact e
  · have hl := hb rfl
    obtain ⟨p, ep⟩ := impl_ParsePlace_tot (rdOf ByteArray.empty L 5) (by have : (rdOf ByteArray.empty L 5).size ≤ s.size := (hw 5 (by omega)).1; omega)
    obtain ⟨a7, e7⟩ := impl_ParseNumber_tot (rdOf ByteArray.empty L 7) (by have : (rdOf ByteArray.empty L 7).size ≤ s.size := (hw 7 (by omega)).1; omega)
    obtain ⟨a9, e9⟩ := impl_ParseMeasure_tot (rdOf ByteArray.empty L 9) (by have : (rdOf ByteArray.empty L 9).size ≤ s.size := (hw 9 (by omega)).1; omega)
    obtain ⟨a11, e11⟩ := impl_ParseMeasure_tot (rdOf ByteArray.empty L 11) (by have : (rdOf ByteArray.empty L 11).size ≤ s.size := (hw 11 (by omega)).1; omega)
    have z1 : (rdOf ByteArray.empty L 1).size ≤ 9223372036854775807 := by have : (rdOf ByteArray.empty L 1).size ≤ s.size := (hw 1 (by omega)).1; exact Nat.le_trans this (by omega)
    have z3 : (rdOf ByteArray.empty L 3).size ≤ 9223372036854775807 := by have : (rdOf ByteArray.empty L 3).size ≤ s.size := (hw 3 (by omega)).1; exact Nat.le_trans this (by omega)
    obtain ⟨r, e, h⟩ := dev_last (s := s) (impl_FormatDevice_ev (rdOf ByteArray.empty L 1) 2 (rdOf ByteArray.empty L 3) p.1 p.2.1 a7.1 a9.1 a11.1 z1 z3)
    refine ⟨r, ev_succ ?_, h⟩
    simp only [impl_ParseDevice.j1, if_true, if_pos (show 5 < (L.length : Int) by omega)]
    refine Ev.bind ep ?_
    simp only [if_pos (show 7 < (L.length : Int) by omega)]
    refine Ev.bind e7 ?_
    simp only [if_pos (show 9 < (L.length : Int) by omega)]
    refine Ev.bind e9 ?_
    simp only [if_pos (show 11 < (L.length : Int) by omega)]
    refine Ev.bind e11 ?_
    simp only [if_pos (show 1 < (L.length : Int) by omega), if_pos (show 3 < (L.length : Int) by omega)]
    exact e
theorem impl_PD_j0 (s : ByteArray) (hs : s.size < 4294967281) (L : List ByteArray) (hw : wordsOk s L) (b : Bool) (hb : b = true → L.length = 4) : ∃ r : DRes, Ev (fun k => impl_ParseDevice.j0 k s L b (⟨#[]⟩ : ByteArray) 0 (⟨#[]⟩ : ByteArray) 0 0 0 0 0) r ∧ devRes s r := by
  cases b
  · by_cases c6 : L.length = 12
    · obtain ⟨r, e, h⟩ := impl_PD_j1 s hs L hw ((rdOf ByteArray.empty L 0).toList == ([110, 111, 122, 122, 108, 101] : List UInt8)) (fun _ => c6)
      refine ⟨r, ev_succ ?_, h⟩
      simp only [impl_ParseDevice.j0, Bool.false_eq_true, if_false, if_pos (show (L.length : Int) = 12 by omega), if_pos (show 0 < (L.length : Int) by omega)]
      exact e
    · obtain ⟨r, e, h⟩ := impl_PD_j1 s hs L hw false (fun h => by cases h)
      refine ⟨r, ev_succ ?_, h⟩
      simp only [impl_ParseDevice.j0, Bool.false_eq_true, if_false, if_neg (show ¬ (L.length : Int) = 12 by omega)]
      exact e
  · have hl := hb rfl
    obtain ⟨a3, e3⟩ := impl_ParseMeasure_tot (rdOf ByteArray.empty L 3) (by have : (rdOf ByteArray.empty L 3).size ≤ s.size := (hw 3 (by omega)).1; omega)
    have z1 : (rdOf ByteArray.empty L 1).size ≤ 9223372036854775807 := by have : (rdOf ByteArray.empty L 1).size ≤ s.size := (hw 1 (by omega)).1; exact Nat.le_trans this (by omega)
    obtain ⟨r, e, h⟩ := dev_last (s := s) (impl_FormatDevice_ev (rdOf ByteArray.empty L 1) 1 (⟨#[]⟩ : ByteArray) 0 0 0 0 a3.1 z1 (by decide))
    refine ⟨r, ev_succ ?_, h⟩
    simp only [impl_ParseDevice.j0, if_true, if_pos (show 3 < (L.length : Int) by omega)]
    refine Ev.bind e3 ?_
    simp only [if_pos (show 1 < (L.length : Int) by omega)]
    exact e
theorem impl_ParseDevice_sound (s : ByteArray) (hs : s.size < 4294967281) : ∃ r : DRes, Ev (fun k => impl_ParseDevice.f k s) r ∧ devRes s r := by
  obtain ⟨L, eL, hL⟩ := impl_SplitAt_eq s 32 hs
  have hw := words_ok hL
  by_cases c : L.length = 4
  · obtain ⟨r, e, h⟩ := impl_PD_j0 s hs L hw ((rdOf ByteArray.empty L 0).toList == ([112, 117, 109, 112] : List UInt8)) (fun _ => c)
    refine ⟨r, ?_, h⟩
    simp only [impl_ParseDevice.f, eL, Option.bind_some, if_pos (show (L.length : Int) = 4 by omega), if_pos (show 0 < (L.length : Int) by omega)]
    exact e
  · obtain ⟨r, e, h⟩ := impl_PD_j0 s hs L hw false (fun h => by cases h)
    refine ⟨r, ?_, h⟩
    simp only [impl_ParseDevice.f, eL, Option.bind_some, if_neg (show ¬ (L.length : Int) = 4 by omega)]
    exact e
theorem list_of : ∀ {L : List ByteArray} {ws : List (List UInt8)}, L.map (fun x => x.data.toList) = ws → L = ws.map (fun w => (⟨w.toArray⟩ : ByteArray))
  | [], ws, h => by rw [← h]; rfl
  | a :: t, ws, h => by
    rw [← h, List.map_cons, List.map_cons, ← list_of (L := t) rfl, show (⟨a.data.toList.toArray⟩ : ByteArray) = a from ba_ext rfl]
theorem ba_mk (a : ByteArray) : (⟨a.data.toList.toArray⟩ : ByteArray) = a := ba_ext rfl
theorem dev_vals {n : ByteArray} {kd : Int} {ln : ByteArray} {x y hd ti mo : Int} (h : pDevice n kd ln x y hd ti mo = true) :
    (kd = 1 → ln = ⟨#[]⟩ ∧ x = 0 ∧ y = 0 ∧ hd = 0 ∧ ti = 0 ∧ -4096 ≤ mo ∧ mo ≤ 4096) ∧ (kd = 2 → pPlace x y = true ∧ 0 ≤ hd ∧ hd ≤ 3 ∧ -4096 ≤ ti ∧ ti ≤ 4096 ∧ -4096 ≤ mo ∧ mo ≤ 4096) ∧ (kd = 3 → pPlace x y = true ∧ hd = 0 ∧ ti = 0 ∧ mo = 0) := by
  unfold pDevice at h
  rw [Bool.and_eq_true] at h
  have h2 := h.2
  refine ⟨fun k => ?_, fun k => ?_, fun k => ?_⟩
  · rw [if_pos k] at h2
    simp only [pSup, Bool.and_eq_true, beq_iff_eq, decide_eq_true_eq] at h2
    obtain ⟨hm, hl, ⟨hx, hy⟩, hh, ht⟩ := h2
    rw [ba_tl] at hl
    exact ⟨ba_ext hl, hx, hy, hh, ht, by omega, by omega⟩
  · rw [if_neg (by omega), if_pos k] at h2
    simp only [pJet, i16, pHead, Bool.and_eq_true, decide_eq_true_eq] at h2
    refine ⟨?_, by omega, by omega, by omega, by omega, by omega, by omega⟩
    simp only [pPlace, Bool.and_eq_true, decide_eq_true_eq]
    omega
  · rw [if_neg (by omega), if_neg (by omega), if_pos k] at h2
    simp only [Bool.and_eq_true, beq_iff_eq] at h2
    exact ⟨h2.2.1, h2.2.2⟩
theorem pDevT_size (n : ByteArray) (kd : Int) (ln : ByteArray) (x y hd ti mo : Int) : (pDevT n kd ln x y hd ti mo).size ≤ 1000000 := by
  unfold pDevT
  obtain ⟨z1, z2, z3, z4, z5, z6, z7, z8⟩ := tz
  have hp := pPlaceT_size x y
  have hm := pFmt_size mo
  have ht := pFmt_size ti
  split
  · rename_i h
    obtain ⟨s1, s2, s3⟩ := pDev_num h
    split
    · simp only [ByteArray.size_append]; omega
    · rename_i k1
      have := s2 k1
      split
      · rename_i k2
        obtain ⟨h0, h3⟩ := s3 k2
        have hh := pNum_sz hd h0 (by omega)
        simp only [ByteArray.size_append]; omega
      · simp only [ByteArray.size_append]; omega
  · show 0 ≤ 1000000
    omega
theorem dev_ne {n : ByteArray} {kd : Int} {ln : ByteArray} {x y hd ti mo : Int} (h : pDevice n kd ln x y hd ti mo = true) : ¬ (pDevT n kd ln x y hd ti mo).toList = ([] : List UInt8) := by
  intro e
  rw [ba_tl] at e
  have hl := congrArg List.length e
  rw [ba_sz] at hl
  obtain ⟨z1, z2, z3, z4, z5, z6, z7, z8⟩ := tz
  unfold pDevT at hl
  rw [if_pos h] at hl
  split at hl
  · simp only [ByteArray.size_append, List.length_nil] at hl; omega
  · split at hl <;> (simp only [ByteArray.size_append, List.length_nil] at hl; omega)
theorem impl_ParseDevice_fmt {n : ByteArray} {kd : Int} {ln : ByteArray} {x y hd ti mo : Int} (h : pDevice n kd ln x y hd ti mo = true) : Ev (fun k => impl_ParseDevice.f k (pDevT n kd ln x y hd ti mo)) (n, kd, ln, x, y, hd, ti, mo, true) := by
  have hsz := pDevT_size n kd ln x y hd ti mo
  have hne := dev_ne h
  obtain ⟨v1, v2, v3⟩ := dev_vals h
  obtain ⟨s1, s2, _⟩ := pDev_num h
  obtain ⟨L, eL, hL⟩ := impl_SplitAt_eq (pDevT n kd ln x y hd ti mo) 32 (by omega)
  have hk : kd = 1 ∨ kd = 2 ∨ kd = 3 := by
    rcases (dev_name h).2 with hk | ⟨hk | hk, _⟩
    · exact .inl hk
    · exact .inr (.inl hk)
    · exact .inr (.inr hk)
  have w1 : (⟨wPump.toArray⟩ : ByteArray).toList = [112, 117, 109, 112] := by rw [ba_tl]; rfl
  have w2 : (⟨wNozzle.toArray⟩ : ByteArray).toList = [110, 111, 122, 122, 108, 101] := by rw [ba_tl]; rfl
  have w3 : (⟨wLamp.toArray⟩ : ByteArray).toList = [108, 97, 109, 112] := by rw [ba_tl]; rfl
  rcases hk with rfl | rfl | rfl
  · obtain ⟨rfl, rfl, rfl, rfl, rfl, m0, m1⟩ := v1 rfl
    rw [pump_words h] at hL
    have e := list_of hL
    simp only [List.map_cons, List.map_nil, ba_mk] at e
    subst e
    have fd := impl_FormatDevice_ev n 1 (⟨#[]⟩ : ByteArray) 0 0 0 0 mo (by omega) (by decide)
    simp only [impl_ParseDevice.f, eL, Option.bind_some]
    generalize (⟨wPump.toArray⟩ : ByteArray) = p0 at w1 ⊢
    generalize (⟨wMost.toArray⟩ : ByteArray) = p2
    have l4 : ((([p0, n, p2, pFmt mo] : List ByteArray).length : Nat) : Int) = 4 := rfl
    have r0 : rdOf ByteArray.empty [p0, n, p2, pFmt mo] 0 = p0 := rfl
    have r1 : rdOf ByteArray.empty [p0, n, p2, pFmt mo] 1 = n := rfl
    have r3 : rdOf ByteArray.empty [p0, n, p2, pFmt mo] 3 = pFmt mo := rfl
    simp only [l4, r0, w1, beq_self_eq_true]
    refine ev_ite (fun _ => ?_) (fun hh => absurd trivial hh)
    refine ev_ite (fun _ => ?_) (fun hh => absurd (by decide) hh)
    refine ev_succ ?_
    simp only [impl_ParseDevice.j0, if_true, l4, r1, r3, if_pos (show (3 : Int) < 4 by omega)]
    refine Ev.bind (impl_ParseMeasure_fmt m0 m1) ?_
    simp only [if_pos (show (1 : Int) < 4 by omega), if_neg hne]
    refine Ev.bind fd ?_
    simp only [if_true]
    exact Ev.now _
  · obtain ⟨hp, h0, h3, t0, t1, m0, m1⟩ := v2 rfl
    rw [nozzle_words h] at hL
    have e := list_of hL
    simp only [List.map_cons, List.map_nil, ba_mk] at e
    subst e
    have fd := impl_FormatDevice_ev n 2 ln x y hd ti mo (by omega) (by have := s2 (by omega); omega)
    have pn := impl_ParseNumber_num hd.toNat (by omega)
    rw [show ((hd.toNat : Nat) : Int) = hd by omega] at pn
    simp only [impl_ParseDevice.f, eL, Option.bind_some]
    generalize (⟨wNozzle.toArray⟩ : ByteArray) = p0 at w2 ⊢
    generalize (⟨wOn.toArray⟩ : ByteArray) = p2
    generalize (⟨wAt.toArray⟩ : ByteArray) = p4
    generalize (⟨wHead.toArray⟩ : ByteArray) = p6
    generalize (⟨wTilt.toArray⟩ : ByteArray) = p8
    generalize (⟨wMost.toArray⟩ : ByteArray) = p10
    obtain ⟨LL, hLL⟩ : ∃ LL : List ByteArray, LL = [p0, n, p2, ln, p4, pPlaceT x y, p6, pNum hd, p8, pFmt ti, p10, pFmt mo] := ⟨_, rfl⟩
    have l4 : ((LL.length : Nat) : Int) = 12 := by rw [hLL]; rfl
    have r0 : rdOf ByteArray.empty LL 0 = p0 := by rw [hLL]; rfl
    have r1 : rdOf ByteArray.empty LL 1 = n := by rw [hLL]; rfl
    have r3 : rdOf ByteArray.empty LL 3 = ln := by rw [hLL]; rfl
    have r5 : rdOf ByteArray.empty LL 5 = pPlaceT x y := by rw [hLL]; rfl
    have r7 : rdOf ByteArray.empty LL 7 = pNum hd := by rw [hLL]; rfl
    have r9 : rdOf ByteArray.empty LL 9 = pFmt ti := by rw [hLL]; rfl
    have r11 : rdOf ByteArray.empty LL 11 = pFmt mo := by rw [hLL]; rfl
    rw [← hLL]
    simp only [l4]
    refine ev_ite (fun hh => absurd hh (by decide)) (fun _ => ?_)
    refine ev_succ ?_
    simp only [impl_ParseDevice.j0, Bool.false_eq_true, if_false, l4, r0, w2, beq_self_eq_true]
    refine ev_ite (fun _ => ?_) (fun hh => absurd trivial hh)
    refine ev_ite (fun _ => ?_) (fun hh => absurd (by decide) hh)
    refine ev_succ ?_
    simp only [impl_ParseDevice.j1, if_true, l4, r1, r3, r5, r7, r9, r11, if_pos (show (5 : Int) < 12 by omega)]
    refine Ev.bind (impl_ParsePlace_fmt hp) ?_
    simp only [if_pos (show (7 : Int) < 12 by omega)]
    refine Ev.bind pn ?_
    simp only [if_pos (show (9 : Int) < 12 by omega)]
    refine Ev.bind (impl_ParseMeasure_fmt t0 t1) ?_
    simp only [if_pos (show (11 : Int) < 12 by omega)]
    refine Ev.bind (impl_ParseMeasure_fmt m0 m1) ?_
    simp only [if_pos (show (1 : Int) < 12 by omega), if_pos (show (3 : Int) < 12 by omega), if_neg hne]
    refine Ev.bind fd ?_
    simp only [if_true]
    exact Ev.now _
  · obtain ⟨hp, rfl, rfl, rfl⟩ := v3 rfl
    rw [lamp_words h] at hL
    have e := list_of hL
    simp only [List.map_cons, List.map_nil, ba_mk] at e
    subst e
    have fd := impl_FormatDevice_ev n 3 ln x y 0 0 0 (by omega) (by have := s2 (by omega); omega)
    simp only [impl_ParseDevice.f, eL, Option.bind_some]
    generalize (⟨wLamp.toArray⟩ : ByteArray) = p0 at w3 ⊢
    generalize (⟨wOn.toArray⟩ : ByteArray) = p2
    generalize (⟨wAt.toArray⟩ : ByteArray) = p4
    obtain ⟨LL, hLL⟩ : ∃ LL : List ByteArray, LL = [p0, n, p2, ln, p4, pPlaceT x y] := ⟨_, rfl⟩
    have l4 : ((LL.length : Nat) : Int) = 6 := by rw [hLL]; rfl
    have r0 : rdOf ByteArray.empty LL 0 = p0 := by rw [hLL]; rfl
    have r1 : rdOf ByteArray.empty LL 1 = n := by rw [hLL]; rfl
    have r3 : rdOf ByteArray.empty LL 3 = ln := by rw [hLL]; rfl
    have r5 : rdOf ByteArray.empty LL 5 = pPlaceT x y := by rw [hLL]; rfl
    rw [← hLL]
    simp only [l4]
    refine ev_ite (fun hh => absurd hh (by decide)) (fun _ => ?_)
    refine ev_succ ?_
    simp only [impl_ParseDevice.j0, Bool.false_eq_true, if_false, l4]
    refine ev_ite (fun hh => absurd hh (by decide)) (fun _ => ?_)
    refine ev_succ ?_
    simp only [impl_ParseDevice.j1, Bool.false_eq_true, if_false, l4, r0, w3, beq_self_eq_true]
    refine ev_ite (fun _ => ?_) (fun hh => absurd trivial hh)
    refine ev_ite (fun _ => ?_) (fun hh => absurd (by decide) hh)
    refine ev_succ ?_
    simp only [impl_ParseDevice.j2, if_true, l4, r1, r3, r5, if_pos (show (5 : Int) < 6 by omega)]
    refine Ev.bind (impl_ParsePlace_fmt hp) ?_
    simp only [if_pos (show (1 : Int) < 6 by omega), if_pos (show (3 : Int) < 6 by omega), if_neg hne]
    refine Ev.bind fd ?_
    simp only [if_true]
    exact Ev.now _
/-- The second half of a round of the reference's ParsePlace. -/
theorem spec_PP_j1 (s : ByteArray) (hs : s.size < 4294967281) (i f : Nat) (h1 : 1 ≤ s.size) (hf : f ≤ s.size - 1) (x : Int) (ok : Bool) (q : Int × Bool) (eq : Ev (fun k => spec_ParseMeasure.f k (s.extract f (s.size - 1))) q) (hi : i < 4294967281) :
    ((ok = true ∧ q.2 = true ∧ (pPlaceT x q.1).toList = s.toList) → Ev (fun k => spec_ParsePlace.j1 k s (i : Int) x ok (f : Int)) (x, q.1, true)) ∧
    (¬ (ok = true ∧ q.2 = true ∧ (pPlaceT x q.1).toList = s.toList) → ∀ r, Ev (fun k => spec_ParsePlace.l0 k s ((i + 1 : Nat) : Int)) r → Ev (fun k => spec_ParsePlace.j1 k s (i : Int) x ok (f : Int)) r) := by
  have hw : wrap64 ((s.size : Int) - 1) = ((s.size - 1 : Nat) : Int) := by unfold wrap64; omega
  have hw1 : wrap64 ((i : Int) + 1) = ((i + 1 : Nat) : Int) := by unfold wrap64; omega
  have pre : ∀ r, Ev (fun k => if ok = true then (if q.2 = true then ((spec_FormatPlace.f k x q.1).bind fun t => (if t.toList = s.toList then (some (x, q.1, true)) else (spec_ParsePlace.l0 k s ((i + 1 : Nat) : Int)))) else (spec_ParsePlace.l0 k s ((i + 1 : Nat) : Int))) else (spec_ParsePlace.l0 k s ((i + 1 : Nat) : Int))) r → Ev (fun k => spec_ParsePlace.j1 k s (i : Int) x ok (f : Int)) r := by
    intro r e
    refine ev_succ ?_
    simp only [spec_ParsePlace.j1, hw, hw1, if_pos (nn _), if_pos (show (f : Int) ≤ ((s.size - 1 : Nat) : Int) by omega), if_pos (show ((s.size - 1 : Nat) : Int) ≤ (s.size : Int) by omega), Int.toNat_natCast]
    refine Ev.bind eq ?_
    exact e
  refine ⟨fun ⟨c1, c2, c3⟩ => pre _ ?_, fun hc r er => pre _ ?_⟩
  · simp only [if_pos c1, if_pos c2]
    refine Ev.bind (spec_FormatPlace_ev _ _) ?_
    simp only [if_pos c3]; exact Ev.now _
  · refine ev_ite (fun c1 => ?_) (fun _ => er)
    refine ev_ite (fun c2 => ?_) (fun _ => er)
    refine Ev.bind (spec_FormatPlace_ev _ _) ?_
    simp only [if_neg (show ¬ (pPlaceT x q.1).toList = s.toList from fun c3 => hc ⟨c1, c2, c3⟩)]; exact er
/-- A round of the reference's ParsePlace. -/
theorem spec_PP_step (s : ByteArray) (hs : s.size < 4294967281) (i : Nat) (h1 : 1 ≤ i) (h2 : i + 1 < s.size) (p : Int × Bool) (ep : Ev (fun k => spec_ParseMeasure.f k (s.extract 0 i)) p) (q : Int × Bool) (eq : Ev (fun k => spec_ParseMeasure.f k (s.extract (if bt s (i : Int) = 43 then i + 1 else i) (s.size - 1))) q) :
    ((p.2 = true ∧ q.2 = true ∧ (pPlaceT p.1 q.1).toList = s.toList) → Ev (fun k => spec_ParsePlace.l0 k s (i : Int)) (p.1, q.1, true)) ∧
    (¬ (p.2 = true ∧ q.2 = true ∧ (pPlaceT p.1 q.1).toList = s.toList) → ∀ r, Ev (fun k => spec_ParsePlace.l0 k s ((i + 1 : Nat) : Int)) r → Ev (fun k => spec_ParsePlace.l0 k s (i : Int)) r) := by
  have hw1 : wrap64 ((i : Int) + 1) = ((i + 1 : Nat) : Int) := by unfold wrap64; omega
  obtain ⟨j1, j2⟩ := spec_PP_j1 s hs i (if bt s (i : Int) = 43 then i + 1 else i) (by omega) (by split <;> omega) p.1 p.2 q eq (by omega)
  have pre : ∀ r, Ev (fun k => spec_ParsePlace.j1 k s (i : Int) p.1 p.2 ((if bt s (i : Int) = 43 then i + 1 else i : Nat) : Int)) r → Ev (fun k => spec_ParsePlace.l0 k s (i : Int)) r := by
    intro r e
    refine ev_succ ?_
    simp only [spec_ParsePlace.l0, hw1, if_pos (show ((i + 1 : Nat) : Int) < (s.size : Int) by omega), if_pos (nn _), if_pos (show (i : Int) ≤ (s.size : Int) by omega), Int.toNat_natCast]
    refine Ev.bind ep ?_
    simp only [if_pos (show (i : Int) < (s.size : Int) by omega)]
    by_cases c : bt s (i : Int) = 43
    · simp only [if_pos c] at e ⊢; exact e
    · simp only [if_neg c] at e ⊢; exact e
  exact ⟨fun h => pre _ (j1 h), fun h r e => pre _ (j2 h r e)⟩
theorem spec_PP_meas (s : ByteArray) (hs : s.size < 4294967281) (a b : Nat) : ∃ p, Ev (fun k => spec_ParseMeasure.f k (s.extract a b)) p := spec_ParseMeasure_tot _ (by have := ex_size s a b; omega)
theorem spec_PP_l0_tot (s : ByteArray) (hs : s.size < 4294967281) : ∀ (d i : Nat), i + d = s.size + 1 → 1 ≤ i → ∃ r, Ev (fun k => spec_ParsePlace.l0 k s (i : Int)) r := by
  intro d
  induction d with
  | zero =>
    intro i hi _
    have hw1 : wrap64 ((i : Int) + 1) = ((i + 1 : Nat) : Int) := by unfold wrap64; omega
    refine ⟨((0 : Int), (0 : Int), false), ev_succ ?_⟩
    simp only [spec_ParsePlace.l0, hw1, if_neg (show ¬ ((i + 1 : Nat) : Int) < (s.size : Int) by omega)]
    exact Ev.now _
  | succ d ih =>
    intro i hi h1
    by_cases h2 : i + 1 < s.size
    · obtain ⟨p, ep⟩ := spec_PP_meas s hs 0 i
      obtain ⟨q, eq⟩ := spec_PP_meas s hs (if bt s (i : Int) = 43 then i + 1 else i) (s.size - 1)
      obtain ⟨s1, s2⟩ := spec_PP_step s hs i h1 h2 p ep q eq
      by_cases c : p.2 = true ∧ q.2 = true ∧ (pPlaceT p.1 q.1).toList = s.toList
      · exact ⟨_, s1 c⟩
      · obtain ⟨r, er⟩ := ih (i + 1) (by omega) (by omega)
        exact ⟨r, s2 c r er⟩
    · have hw1 : wrap64 ((i : Int) + 1) = ((i + 1 : Nat) : Int) := by unfold wrap64; omega
      refine ⟨((0 : Int), (0 : Int), false), ev_succ ?_⟩
      simp only [spec_ParsePlace.l0, hw1, if_neg (show ¬ ((i + 1 : Nat) : Int) < (s.size : Int) by omega)]
      exact Ev.now _
theorem spec_ParsePlace_tot (s : ByteArray) (hs : s.size < 4294967281) : ∃ r, Ev (fun k => spec_ParsePlace.f k s) r := spec_PP_l0_tot s hs s.size 1 (by omega) (by omega)
/-- A place's text is of one place alone. -/
theorem place_inj {x y x' y' : Int} (h : pPlace x y = true) (h' : pPlace x' y' = true) (e : pPlaceT x' y' = pPlaceT x y) : x' = x ∧ y' = y := by
  have e1 := impl_ParsePlace_fmt h
  have e2 := impl_ParsePlace_fmt h'
  rw [e] at e2
  have := Ev_uniq e2 e1
  simp only [Prod.mk.injEq] at this
  exact ⟨this.1, this.2.1⟩
theorem spec_PP_loop {x y : Int} (h : pPlace x y = true) (n : Nat) (hn : n = (pFmt x).data.toList.length) : ∀ (d i : Nat), i + d = n → 1 ≤ i → Ev (fun k => spec_ParsePlace.l0 k (pPlaceT x y) (i : Int)) (x, y, true) := by
  obtain ⟨c, rest, hl, hc, hr, ht⟩ := place_parts h
  have hsz := pPlaceT_size x y
  have hb := h
  simp only [pPlace, Bool.and_eq_true, decide_eq_true_eq] at hb
  have hz : (pPlaceT x y).size = n + (rest.length + 2) := by
    rw [← ba_sz, hl, hn]; simp
  have hs : (pPlaceT x y).size < 4294967281 := by omega
  intro d
  induction d with
  | zero =>
    intro i hi h1
    obtain rfl : i = n := by omega
    have hbt : bt (pPlaceT x y) (i : Int) = (c.toNat : Int) := bt_get (by rw [hl, hn]; simp)
    have e1 : (pPlaceT x y).extract 0 i = pFmt x := ba_ext (by rw [ex_list, hl, List.drop_zero, Nat.sub_zero, hn, List.take_left])
    have ep : Ev (fun k => spec_ParseMeasure.f k ((pPlaceT x y).extract 0 i)) (x, true) := by rw [e1]; exact spec_ParseMeasure_fmt hb.1.1 hb.1.2
    have e3 : (pPlaceT x y).extract (if bt (pPlaceT x y) (i : Int) = 43 then i + 1 else i) ((pPlaceT x y).size - 1) = pFmt y := by
      refine ba_ext ?_
      rw [ex_list, hl, hz, ← ht]
      simp [Ty.isSg] at hc
      rcases hc with rfl | rfl
      · have hlen : ((pFmt x).data.toList ++ [(43 : UInt8)]).length = i + 1 := by rw [List.length_append, ← hn]; rfl
        rw [if_pos (by rw [hbt]; rfl), show (pFmt x).data.toList ++ 43 :: (rest ++ [105]) = ((pFmt x).data.toList ++ [(43 : UInt8)]) ++ (rest ++ [105]) by simp, ← hlen, List.drop_left, hlen, show i + (rest.length + 2) - 1 - (i + 1) = rest.length by omega, List.take_left]
        unfold Go.Lib.trimPrefix Go.Lib.hasPrefix
        simp [List.isPrefixOf]
      · rw [if_neg (by rw [hbt]; decide), hn, List.drop_left, show (pFmt x).data.toList.length + (rest.length + 2) - 1 - (pFmt x).data.toList.length = (45 :: rest).length by simp <;> omega, show 45 :: (rest ++ [105]) = (45 :: rest) ++ [105] by simp, List.take_left]
        unfold Go.Lib.trimPrefix Go.Lib.hasPrefix
        simp [List.isPrefixOf]
    have eq : Ev (fun k => spec_ParseMeasure.f k ((pPlaceT x y).extract (if bt (pPlaceT x y) (i : Int) = 43 then i + 1 else i) ((pPlaceT x y).size - 1))) (y, true) := by rw [e3]; exact spec_ParseMeasure_fmt hb.2.1 hb.2.2
    exact (spec_PP_step (pPlaceT x y) hs i h1 (by omega) _ ep _ eq).1 ⟨rfl, rfl, rfl⟩
  | succ d ih =>
    intro i hi h1
    obtain ⟨p, ep⟩ := spec_PP_meas (pPlaceT x y) hs 0 i
    obtain ⟨q, eq⟩ := spec_PP_meas (pPlaceT x y) hs (if bt (pPlaceT x y) (i : Int) = 43 then i + 1 else i) ((pPlaceT x y).size - 1)
    obtain ⟨s1, s2⟩ := spec_PP_step (pPlaceT x y) hs i h1 (by omega) p ep q eq
    by_cases cc : p.2 = true ∧ q.2 = true ∧ (pPlaceT p.1 q.1).toList = (pPlaceT x y).toList
    · have e := s1 cc
      have e3 := ba_ext ((ba_tl _).symm.trans (cc.2.2.trans (ba_tl _)))
      have hp : pPlace p.1 q.1 = true := by
        by_cases g : pPlace p.1 q.1 = true
        · exact g
        · exfalso
          have : pPlaceT p.1 q.1 = (⟨#[]⟩ : ByteArray) := by unfold pPlaceT; rw [if_neg g]
          rw [this] at e3
          rw [← e3] at hz
          have hz0 : (⟨#[]⟩ : ByteArray).size = 0 := rfl
          omega
      obtain ⟨e4, e5⟩ := place_inj h hp e3
      rw [e4, e5] at e
      exact e
    · exact s2 cc _ (ih (i + 1) (by omega) (by omega))
theorem spec_ParsePlace_fmt {x y : Int} (h : pPlace x y = true) : Ev (fun k => spec_ParsePlace.f k (pPlaceT x y)) (x, y, true) := by
  have hb := h
  simp only [pPlace, Bool.and_eq_true, decide_eq_true_eq] at hb
  have hfx : 1 ≤ (pFmt x).data.toList.length := by
    rw [pFmt_list hb.1.1 hb.1.2, List.length_append, List.length_append]
    have := List.length_pos_iff.2 (numl_ne x); omega
  exact spec_PP_loop h _ rfl ((pFmt x).data.toList.length - 1) 1 (by omega) (by omega)
abbrev e11 : List ByteArray := [(⟨#[]⟩ : ByteArray), (⟨#[]⟩ : ByteArray), (⟨#[]⟩ : ByteArray), (⟨#[]⟩ : ByteArray), (⟨#[]⟩ : ByteArray), (⟨#[]⟩ : ByteArray), (⟨#[]⟩ : ByteArray), (⟨#[]⟩ : ByteArray), (⟨#[]⟩ : ByteArray), (⟨#[]⟩ : ByteArray), (⟨#[]⟩ : ByteArray)]
theorem spec_PD_j0 (s : ByteArray) (hs : s.size < 4294967281) (M : List ByteArray) (hm : 12 ≤ M.length) (rd : ∀ i : Nat, i < M.length → (rdOf ByteArray.empty M (i : Int)).size ≤ s.size) (n : ByteArray) (hn : n.size ≤ s.size) (kd hd ti mo : Int) :
    ∃ r : DRes, Ev (fun k => spec_ParseDevice.j0 k s M n kd (⟨#[]⟩ : ByteArray) 0 0 hd ti mo) r ∧ devRes s r := by
  have z1 : n.size ≤ 9223372036854775807 := Nat.le_trans hn (by omega)
  by_cases c : kd > 1
  · obtain ⟨p, ep⟩ := spec_ParsePlace_tot (rdOf ByteArray.empty M 5) (by have : (rdOf ByteArray.empty M 5).size ≤ s.size := rd 5 (by omega); omega)
    have z3 : (rdOf ByteArray.empty M 3).size ≤ 9223372036854775807 := by have : (rdOf ByteArray.empty M 3).size ≤ s.size := rd 3 (by omega); exact Nat.le_trans this (by omega)
    obtain ⟨r, e, h⟩ := dev_last (s := s) (spec_FormatDevice_ev n kd (rdOf ByteArray.empty M 3) p.1 p.2.1 hd ti mo z1 z3)
    refine ⟨r, ev_succ ?_, h⟩
    simp only [spec_ParseDevice.j0, if_pos c, if_pos (show 3 < (M.length : Int) by omega), if_pos (show 5 < (M.length : Int) by omega)]
    refine Ev.bind ep ?_
    exact e
  · obtain ⟨r, e, h⟩ := dev_last (s := s) (spec_FormatDevice_ev n kd (⟨#[]⟩ : ByteArray) 0 0 hd ti mo z1 (by decide))
    refine ⟨r, ev_succ ?_, h⟩
    simp only [spec_ParseDevice.j0, if_neg c]
    exact e
theorem spec_ParseDevice_sound (s : ByteArray) (hs : s.size < 4294967281) : ∃ r : DRes, Ev (fun k => spec_ParseDevice.f k s) r ∧ devRes s r := by
  obtain ⟨L, eL, hL⟩ := spec_SplitAt_ev s 32 hs
  have hwz : ∀ x ∈ L, x.size ≤ s.size := fun x hx => by
    have : x.data.toList ∈ splA 32 [] s.data.toList := by rw [← hL]; exact List.mem_map.2 ⟨x, hx, rfl⟩
    have := splA_len _ _ _ _ this
    rw [ba_sz, ba_sz] at this; simpa using this
  have hLl : L.length ≤ s.size + 1 := by
    have := congrArg List.length hL
    rw [List.length_map] at this
    have h2 := splA_count 32 s.data.toList []
    rw [ba_sz] at h2; omega
  have hL1 : 1 ≤ L.length := by
    cases h : splA 32 [] s.data.toList with
    | nil => exact absurd h (splA_ne _ _ _)
    | cons w ws => rw [h] at hL; obtain ⟨a, t, rfl, _⟩ := head_of hL; simp
  obtain ⟨M, hM⟩ : ∃ M : List ByteArray, M = L ++ e11 := ⟨_, rfl⟩
  have hMl : M.length = L.length + 11 := by rw [hM, List.length_append]; rfl
  have hMz : ∀ x ∈ M, x.size ≤ s.size := fun x hx => by
    rw [hM] at hx
    rcases List.mem_append.1 hx with h | h
    · exact hwz x h
    · simp only [e11, List.mem_cons, List.not_mem_nil, or_false, or_self] at h
      subst h
      exact Nat.zero_le _
  have rd : ∀ i : Nat, i < M.length → (rdOf ByteArray.empty M (i : Int)).size ≤ s.size := fun i hi => by
    refine hMz _ ?_
    unfold rdOf
    rw [Int.toNat_natCast, List.getD_eq_getElem?_getD, List.getElem?_eq_getElem hi, Option.getD_some]
    exact List.getElem_mem _
  have n1 : (rdOf ByteArray.empty M 1).size ≤ s.size := rd 1 (by omega)
  obtain ⟨a3, e3⟩ := spec_ParseMeasure_tot (rdOf ByteArray.empty M 3) (by have : (rdOf ByteArray.empty M 3).size ≤ s.size := rd 3 (by omega); omega)
  obtain ⟨a7, e7⟩ := spec_ParseNumber_tot (rdOf ByteArray.empty M 7) (by have : (rdOf ByteArray.empty M 7).size ≤ s.size := rd 7 (by omega); omega)
  obtain ⟨a9, e9⟩ := spec_ParseMeasure_tot (rdOf ByteArray.empty M 9) (by have : (rdOf ByteArray.empty M 9).size ≤ s.size := rd 9 (by omega); omega)
  obtain ⟨a11, e11'⟩ := spec_ParseMeasure_tot (rdOf ByteArray.empty M 11) (by have : (rdOf ByteArray.empty M 11).size ≤ s.size := rd 11 (by omega); omega)
  have pre : ∀ r, Ev (fun k => if (rdOf ByteArray.empty M 0).toList = ([112, 117, 109, 112] : List UInt8) then (spec_ParseDevice.j0 k s M (rdOf ByteArray.empty M 1) 1 (⟨#[]⟩ : ByteArray) 0 0 0 0 a3.1) else (if (rdOf ByteArray.empty M 0).toList = ([110, 111, 122, 122, 108, 101] : List UInt8) then (spec_ParseDevice.j0 k s M (rdOf ByteArray.empty M 1) 2 (⟨#[]⟩ : ByteArray) 0 0 a7.1 a9.1 a11.1) else (if (rdOf ByteArray.empty M 0).toList = ([108, 97, 109, 112] : List UInt8) then (spec_ParseDevice.j0 k s M (rdOf ByteArray.empty M 1) 3 (⟨#[]⟩ : ByteArray) 0 0 0 0 0) else (spec_ParseDevice.j0 k s M (rdOf ByteArray.empty M 1) 0 (⟨#[]⟩ : ByteArray) 0 0 0 0 0)))) r → Ev (fun k => spec_ParseDevice.f k s) r := by
    intro r e
    unfold spec_ParseDevice.f
    refine Ev.bind eL ?_
    simp only [Option.bind_some]
    rw [show L ++ ([(⟨#[]⟩ : ByteArray), (⟨#[]⟩ : ByteArray), (⟨#[]⟩ : ByteArray), (⟨#[]⟩ : ByteArray), (⟨#[]⟩ : ByteArray), (⟨#[]⟩ : ByteArray), (⟨#[]⟩ : ByteArray), (⟨#[]⟩ : ByteArray), (⟨#[]⟩ : ByteArray), (⟨#[]⟩ : ByteArray), (⟨#[]⟩ : ByteArray)] : List ByteArray) = M from hM.symm]
    simp only [if_pos (show L.length + ([(⟨#[]⟩ : ByteArray), (⟨#[]⟩ : ByteArray), (⟨#[]⟩ : ByteArray), (⟨#[]⟩ : ByteArray), (⟨#[]⟩ : ByteArray), (⟨#[]⟩ : ByteArray), (⟨#[]⟩ : ByteArray), (⟨#[]⟩ : ByteArray), (⟨#[]⟩ : ByteArray), (⟨#[]⟩ : ByteArray), (⟨#[]⟩ : ByteArray)] : List ByteArray).length < 8796093022208 by show L.length + 11 < _; omega), if_pos (show 1 < (M.length : Int) by omega), if_pos (show 0 < (M.length : Int) by omega), if_pos (show 3 < (M.length : Int) by omega), if_pos (show 7 < (M.length : Int) by omega), if_pos (show 9 < (M.length : Int) by omega), if_pos (show 11 < (M.length : Int) by omega)]
    refine ev_ite (fun c1 => ?_) (fun c1 => ?_)
    · simp only [if_pos c1] at e
      exact Ev.bind e3 e
    · simp only [if_neg c1] at e
      refine ev_ite (fun c2 => ?_) (fun c2 => ?_)
      · simp only [if_pos c2] at e
        refine Ev.bind e7 ?_
        refine Ev.bind e9 ?_
        exact Ev.bind e11' e
      · simp only [if_neg c2] at e
        exact e
  by_cases c1 : (rdOf ByteArray.empty M 0).toList = ([112, 117, 109, 112] : List UInt8)
  · obtain ⟨r, e, h⟩ := spec_PD_j0 s hs M (by omega) rd _ n1 1 0 0 a3.1
    exact ⟨r, pre r (by simp only [if_pos c1]; exact e), h⟩
  · by_cases c2 : (rdOf ByteArray.empty M 0).toList = ([110, 111, 122, 122, 108, 101] : List UInt8)
    · obtain ⟨r, e, h⟩ := spec_PD_j0 s hs M (by omega) rd _ n1 2 a7.1 a9.1 a11.1
      exact ⟨r, pre r (by simp only [if_neg c1, if_pos c2]; exact e), h⟩
    · by_cases c3 : (rdOf ByteArray.empty M 0).toList = ([108, 97, 109, 112] : List UInt8)
      · obtain ⟨r, e, h⟩ := spec_PD_j0 s hs M (by omega) rd _ n1 3 0 0 0
        exact ⟨r, pre r (by simp only [if_neg c1, if_neg c2, if_pos c3]; exact e), h⟩
      · obtain ⟨r, e, h⟩ := spec_PD_j0 s hs M (by omega) rd _ n1 0 0 0 0
        exact ⟨r, pre r (by simp only [if_neg c1, if_neg c2, if_neg c3]; exact e), h⟩
theorem spec_ParseDevice_fmt {n : ByteArray} {kd : Int} {ln : ByteArray} {x y hd ti mo : Int} (h : pDevice n kd ln x y hd ti mo = true) : Ev (fun k => spec_ParseDevice.f k (pDevT n kd ln x y hd ti mo)) (n, kd, ln, x, y, hd, ti, mo, true) := by
  have hsz := pDevT_size n kd ln x y hd ti mo
  have hne := dev_ne h
  obtain ⟨v1, v2, v3⟩ := dev_vals h
  obtain ⟨s1, s2, _⟩ := pDev_num h
  obtain ⟨L, eL, hL⟩ := spec_SplitAt_ev (pDevT n kd ln x y hd ti mo) 32 (by omega)
  have hk : kd = 1 ∨ kd = 2 ∨ kd = 3 := by
    rcases (dev_name h).2 with hk | ⟨hk | hk, _⟩
    · exact .inl hk
    · exact .inr (.inl hk)
    · exact .inr (.inr hk)
  have w1 : (⟨wPump.toArray⟩ : ByteArray).toList = [112, 117, 109, 112] := by rw [ba_tl]; rfl
  have w2 : (⟨wNozzle.toArray⟩ : ByteArray).toList = [110, 111, 122, 122, 108, 101] := by rw [ba_tl]; rfl
  have w3 : (⟨wLamp.toArray⟩ : ByteArray).toList = [108, 97, 109, 112] := by rw [ba_tl]; rfl
  have pre : ∀ (M : List ByteArray), M = L ++ e11 → 12 ≤ M.length → L.length ≤ 100 → ∀ r, Ev (fun k => if (rdOf ByteArray.empty M 0).toList = ([112, 117, 109, 112] : List UInt8) then ((spec_ParseMeasure.f k (rdOf ByteArray.empty M 3)).bind fun bt305 => (spec_ParseDevice.j0 k (pDevT n kd ln x y hd ti mo) M (rdOf ByteArray.empty M 1) 1 (⟨#[]⟩ : ByteArray) 0 0 0 0 bt305.1)) else (if (rdOf ByteArray.empty M 0).toList = ([110, 111, 122, 122, 108, 101] : List UInt8) then ((spec_ParseNumber.f k (rdOf ByteArray.empty M 7)).bind fun bt308 => ((spec_ParseMeasure.f k (rdOf ByteArray.empty M 9)).bind fun bt311 => ((spec_ParseMeasure.f k (rdOf ByteArray.empty M 11)).bind fun bt314 => (spec_ParseDevice.j0 k (pDevT n kd ln x y hd ti mo) M (rdOf ByteArray.empty M 1) 2 (⟨#[]⟩ : ByteArray) 0 0 bt308.1 bt311.1 bt314.1)))) else (if (rdOf ByteArray.empty M 0).toList = ([108, 97, 109, 112] : List UInt8) then (spec_ParseDevice.j0 k (pDevT n kd ln x y hd ti mo) M (rdOf ByteArray.empty M 1) 3 (⟨#[]⟩ : ByteArray) 0 0 0 0 0) else (spec_ParseDevice.j0 k (pDevT n kd ln x y hd ti mo) M (rdOf ByteArray.empty M 1) 0 (⟨#[]⟩ : ByteArray) 0 0 0 0 0)))) r → Ev (fun k => spec_ParseDevice.f k (pDevT n kd ln x y hd ti mo)) r := by
    intro M hM hl hl2 r e
    unfold spec_ParseDevice.f
    refine Ev.bind eL ?_
    simp only [Option.bind_some]
    rw [show L ++ ([(⟨#[]⟩ : ByteArray), (⟨#[]⟩ : ByteArray), (⟨#[]⟩ : ByteArray), (⟨#[]⟩ : ByteArray), (⟨#[]⟩ : ByteArray), (⟨#[]⟩ : ByteArray), (⟨#[]⟩ : ByteArray), (⟨#[]⟩ : ByteArray), (⟨#[]⟩ : ByteArray), (⟨#[]⟩ : ByteArray), (⟨#[]⟩ : ByteArray)] : List ByteArray) = M from hM.symm]
    simp only [if_pos (show L.length + ([(⟨#[]⟩ : ByteArray), (⟨#[]⟩ : ByteArray), (⟨#[]⟩ : ByteArray), (⟨#[]⟩ : ByteArray), (⟨#[]⟩ : ByteArray), (⟨#[]⟩ : ByteArray), (⟨#[]⟩ : ByteArray), (⟨#[]⟩ : ByteArray), (⟨#[]⟩ : ByteArray), (⟨#[]⟩ : ByteArray), (⟨#[]⟩ : ByteArray)] : List ByteArray).length < 8796093022208 by show L.length + 11 < _; omega), if_pos (show 1 < (M.length : Int) by omega), if_pos (show 0 < (M.length : Int) by omega), if_pos (show 3 < (M.length : Int) by omega), if_pos (show 7 < (M.length : Int) by omega), if_pos (show 9 < (M.length : Int) by omega), if_pos (show 11 < (M.length : Int) by omega)]
    exact e
  rcases hk with rfl | rfl | rfl
  · obtain ⟨rfl, rfl, rfl, rfl, rfl, m0, m1⟩ := v1 rfl
    rw [pump_words h] at hL
    have e := list_of hL
    simp only [List.map_cons, List.map_nil, ba_mk] at e
    have fd := spec_FormatDevice_ev n 1 (⟨#[]⟩ : ByteArray) 0 0 0 0 mo (by omega) (by decide)
    generalize (⟨wPump.toArray⟩ : ByteArray) = p0 at w1 e
    generalize (⟨wMost.toArray⟩ : ByteArray) = p2 at e
    obtain ⟨M, hM⟩ : ∃ M : List ByteArray, M = L ++ e11 := ⟨_, rfl⟩
    have l4 : M.length = 15 := by rw [hM, e]; rfl
    have r0 : rdOf ByteArray.empty M 0 = p0 := by rw [hM, e]; rfl
    have r1 : rdOf ByteArray.empty M 1 = n := by rw [hM, e]; rfl
    have r3 : rdOf ByteArray.empty M 3 = pFmt mo := by rw [hM, e]; rfl
    refine pre M hM (by omega) (by rw [e]; exact (by decide : 4 ≤ 100)) _ ?_
    rw [r0, r1, r3]
    simp only [w1, if_true]
    refine Ev.bind (spec_ParseMeasure_fmt m0 m1) ?_
    refine ev_succ ?_
    simp only [spec_ParseDevice.j0]
    refine ev_ite (fun hh => absurd hh (by decide)) (fun _ => ?_)
    simp only [if_neg hne]
    refine Ev.bind fd ?_
    simp only [if_true]
    exact Ev.now _
  · obtain ⟨hp, h0, h3, t0, t1, m0, m1⟩ := v2 rfl
    rw [nozzle_words h] at hL
    have e := list_of hL
    simp only [List.map_cons, List.map_nil, ba_mk] at e
    have fd := spec_FormatDevice_ev n 2 ln x y hd ti mo (by omega) (by have := s2 (by omega); omega)
    have pn := spec_ParseNumber_num hd.toNat (by omega)
    rw [show ((hd.toNat : Nat) : Int) = hd by omega] at pn
    generalize (⟨wNozzle.toArray⟩ : ByteArray) = p0 at w2 e
    generalize (⟨wOn.toArray⟩ : ByteArray) = p2 at e
    generalize (⟨wAt.toArray⟩ : ByteArray) = p4 at e
    generalize (⟨wHead.toArray⟩ : ByteArray) = p6 at e
    generalize (⟨wTilt.toArray⟩ : ByteArray) = p8 at e
    generalize (⟨wMost.toArray⟩ : ByteArray) = p10 at e
    obtain ⟨M, hM⟩ : ∃ M : List ByteArray, M = L ++ e11 := ⟨_, rfl⟩
    have l4 : M.length = 23 := by rw [hM, e]; rfl
    have r0 : rdOf ByteArray.empty M 0 = p0 := by rw [hM, e]; rfl
    have r1 : rdOf ByteArray.empty M 1 = n := by rw [hM, e]; rfl
    have r3 : rdOf ByteArray.empty M 3 = ln := by rw [hM, e]; rfl
    have r5 : rdOf ByteArray.empty M 5 = pPlaceT x y := by rw [hM, e]; rfl
    have r7 : rdOf ByteArray.empty M 7 = pNum hd := by rw [hM, e]; rfl
    have r9 : rdOf ByteArray.empty M 9 = pFmt ti := by rw [hM, e]; rfl
    have r11 : rdOf ByteArray.empty M 11 = pFmt mo := by rw [hM, e]; rfl
    refine pre M hM (by omega) (by rw [e]; exact (by decide : 12 ≤ 100)) _ ?_
    rw [r0, r1, r7, r9, r11]
    simp only [w2]
    refine ev_ite (fun hh => absurd hh (by decide)) (fun _ => ?_)
    simp only [if_true]
    refine Ev.bind pn ?_
    refine Ev.bind (spec_ParseMeasure_fmt t0 t1) ?_
    refine Ev.bind (spec_ParseMeasure_fmt m0 m1) ?_
    refine ev_succ ?_
    simp only [spec_ParseDevice.j0, r3, r5, if_pos (show 3 < (M.length : Int) by omega), if_pos (show 5 < (M.length : Int) by omega)]
    refine ev_ite (fun _ => ?_) (fun hh => absurd (by decide) hh)
    refine Ev.bind (spec_ParsePlace_fmt hp) ?_
    simp only [if_neg hne]
    refine Ev.bind fd ?_
    simp only [if_true]
    exact Ev.now _
  · obtain ⟨hp, rfl, rfl, rfl⟩ := v3 rfl
    rw [lamp_words h] at hL
    have e := list_of hL
    simp only [List.map_cons, List.map_nil, ba_mk] at e
    have fd := spec_FormatDevice_ev n 3 ln x y 0 0 0 (by omega) (by have := s2 (by omega); omega)
    generalize (⟨wLamp.toArray⟩ : ByteArray) = p0 at w3 e
    generalize (⟨wOn.toArray⟩ : ByteArray) = p2 at e
    generalize (⟨wAt.toArray⟩ : ByteArray) = p4 at e
    obtain ⟨M, hM⟩ : ∃ M : List ByteArray, M = L ++ e11 := ⟨_, rfl⟩
    have l4 : M.length = 17 := by rw [hM, e]; rfl
    have r0 : rdOf ByteArray.empty M 0 = p0 := by rw [hM, e]; rfl
    have r1 : rdOf ByteArray.empty M 1 = n := by rw [hM, e]; rfl
    have r3 : rdOf ByteArray.empty M 3 = ln := by rw [hM, e]; rfl
    have r5 : rdOf ByteArray.empty M 5 = pPlaceT x y := by rw [hM, e]; rfl
    refine pre M hM (by omega) (by rw [e]; exact (by decide : 6 ≤ 100)) _ ?_
    rw [r0, r1]
    simp only [w3]
    refine ev_ite (fun hh => absurd hh (by decide)) (fun _ => ?_)
    refine ev_ite (fun hh => absurd hh (by decide)) (fun _ => ?_)
    simp only [if_true]
    refine ev_succ ?_
    simp only [spec_ParseDevice.j0, r3, r5, if_pos (show 3 < (M.length : Int) by omega), if_pos (show 5 < (M.length : Int) by omega)]
    refine ev_ite (fun _ => ?_) (fun hh => absurd (by decide) hh)
    refine Ev.bind (spec_ParsePlace_fmt hp) ?_
    simp only [if_neg hne]
    refine Ev.bind fd ?_
    simp only [if_true]
    exact Ev.now _
theorem FnExactParseDevice : laws_FnExactParseDevice.Pure := by
  intro s _
  refine Ev.rounds ?_
  unfold laws_FnExactParseDevice.f
  refine ev_ite (fun _ => Ev.now _) (fun hs => ?_)
  have hs' : s.size < 4294967281 := by omega
  obtain ⟨r, er, hr⟩ := impl_ParseDevice_sound s hs'
  obtain ⟨q, eq, hq⟩ := spec_ParseDevice_sound s hs'
  have same : r = q := by
    rcases hr with rfl | ⟨h1, h2, h3⟩
    · rcases hq with rfl | ⟨g1, g2, g3⟩
      · rfl
      · have hh := impl_ParseDevice_fmt g2
        have e3 := ba_ext ((ba_tl _).symm.trans (g3.trans (ba_tl _)))
        rw [e3] at hh
        have := Ev_uniq hh er
        have h5 := congrArg (fun z => z.2.2.2.2.2.2.2.2) this
        cases h5
    · have hh := spec_ParseDevice_fmt h2
      have e3 := ba_ext ((ba_tl _).symm.trans (h3.trans (ba_tl _)))
      rw [e3] at hh
      have := Ev_uniq hh eq
      rw [← this, ← h1]
  subst same
  refine Ev.bind eq ?_
  refine Ev.bind er ?_
  simp only [laws_eqDevice.f, laws_eqPlace.f, if_true, Option.bind_some, bne_self_eq_false, Bool.false_eq_true, if_false]
  exact Ev.now _

end Go.Proofs.YthofcclbkihemaaDoor.Pure
