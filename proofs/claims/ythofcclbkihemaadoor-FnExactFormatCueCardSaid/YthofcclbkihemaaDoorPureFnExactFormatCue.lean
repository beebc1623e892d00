/- The law FnExactFormatCue comes to true for every input: The program's FormatCue returns what the reference's returns, for all arguments. No condition beside the statement's own. -/
import Derived.Test.YthofcclbkihemaaDoorStFnExactFormatCue
namespace Go.Proofs.YthofcclbkihemaaDoor.Pure
open Go Go.RowKit Go.Proofs.YthofcclbkihemaaDoor.MFnExactFormatCue Go.Proofs.YthofcclbkihemaaDoorW.PrintWords Go.Proofs.YthofcclbkihemaaDoorW.PrintLast Go.Proofs.YthofcclbkihemaaDoorW.PrintMore
set_option linter.unusedVariables false
set_option linter.unusedSimpArgs false

theorem ev_succ {α : Type} {g : Nat → Option α} {r : α} (h : Ev (fun k => g (k + 1)) r) : Ev g r := Ev.step (fun _ => rfl) h
theorem ev_ite {α : Type} {c : Prop} [Decidable c] {f g : Nat → Option α} {r : α} (h : c → Ev f r) (h' : ¬ c → Ev g r) : Ev (fun k => if c then f k else g k) r := by
  by_cases hc : c
  · simp only [if_pos hc]; exact h hc
  · simp only [if_neg hc]; exact h' hc
theorem ix {α : Type} {l pre t : List α} {a : α} (h : l = pre ++ a :: t) (hl : l.length < 4611686018427387904) :
    (pre.length : Int) < (l.length : Int) ∧ (∀ d, l.getD pre.length d = a) ∧ wrap64 ((pre.length : Int) + 1) = ((pre ++ [a]).length : Int) ∧ l = (pre ++ [a]) ++ t := by
  subst h
  simp only [List.length_append, List.length_cons, List.length_nil] at *
  refine ⟨by omega, fun d => by simp [List.getD], by unfold wrap64; omega, by simp⟩
theorem ixn {α : Type} {l pre : List α} (h : l = pre ++ []) : ¬ (pre.length : Int) < (l.length : Int) := by
  subst h; simp
theorem nn (n : Nat) : (0 : Int) ≤ (n : Int) := Int.natCast_nonneg n
theorem w64 {n : Int} (h0 : -9223372036854775808 ≤ n) (h1 : n < 9223372036854775808) : wrap64 n = n := by unfold wrap64; omega
theorem mn_min (a b : Int) : mn a b = min a b := by unfold mn; omega
theorem mx_max (a b : Int) : mx a b = max a b := by unfold mx; omega
theorem set_app {α : Type} (pre t : List α) (a b : α) : (pre ++ a :: t).set pre.length b = pre ++ b :: t := by simp
theorem app1 {α : Type} (pre : List α) (a : α) (t : List α) : pre ++ a :: t = (pre ++ [a]) ++ t := by simp

/-- The numbers from c on, n of them. -/
def upto : Nat → Int → List Int
  | 0, _ => []
  | n + 1, c => c :: upto n (c + 1)
theorem upto_length : ∀ n c, (upto n c).length = n
  | 0, _ => rfl
  | n + 1, c => by simp [upto, upto_length n]

theorem spec_l1In_eq (a b c : Int) : spec_l1In.f a b c = some (decide (b ≤ a) && decide (a ≤ c)) := by
  unfold spec_l1In.f; split <;> simp <;> omega
theorem impl_isWithin_eq (a b c : Int) : impl_isWithin.f a b c = some (decide (b ≤ a) && decide (a ≤ c)) := by
  unfold impl_isWithin.f; split <;> simp <;> omega
theorem ix2 {α : Type} {l pre t : List α} {p a : α} (h : l = (pre ++ [p]) ++ a :: t) (hl : l.length < 4611686018427387904) :
    (((pre ++ [p]).length : Int)) > 0 ∧ wrap64 (((pre ++ [p]).length : Int) - 1) = (pre.length : Int) ∧ (∀ d, l.getD pre.length d = p) ∧ (pre.length : Int) < (l.length : Int) := by
  subst h
  simp only [List.length_append, List.length_cons, List.length_nil] at *
  refine ⟨by omega, by unfold wrap64; omega, fun d => by simp [List.getD], by omega⟩
theorem ev_eq {α : Type} {f g : Nat → Option α} {r : α} (h : f = g) (k : Ev g r) : Ev f r := h ▸ k
def pMeas (x : Int) : Bool := decide (-4096 ≤ x) && decide (x ≤ 4096)
theorem spec_IsMeasure_eq (x : Int) : spec_IsMeasure.f x = some (pMeas x) := by
  unfold spec_IsMeasure.f pMeas; split <;> simp <;> omega
def pMeas' (x : Int) : Bool := decide (-4096 ≤ x) && decide (x ≤ 4096)
theorem impl_IsMeasure_eq (x : Int) : impl_IsMeasure.f x = some (pMeas' x) := by
  simp only [impl_IsMeasure.f, impl_isWithin_eq, Option.bind_some, pMeas']
def nmC (b : Int) (i : Nat) : Bool := (decide (97 ≤ b) && decide (b ≤ 122)) || ((decide (48 ≤ b) && decide (b ≤ 57)) && !decide (i = 0))
def nmR (a : ByteArray) : Nat → Nat → Bool
  | 0, _ => decide (1 ≤ (a.size : Int)) && decide ((a.size : Int) ≤ 8)
  | d + 1, i => nmC (bt a (i : Int)) i && nmR a d (i + 1)
def pName (a : ByteArray) : Bool := nmR a a.size 0
theorem spec_IsName_l0 (a : ByteArray) (ha : a.size ≤ 9223372036854775807) : ∀ (d i : Nat), i + d = a.size → Ev (fun k => spec_IsName.l0 k a (i : Int)) (nmR a d i) := by
  intro d
  induction d with
  | zero =>
    intro i h
    refine ev_succ ?_
    simp only [spec_IsName.l0, if_neg (show ¬ ((i : Int) < (a.size : Int)) by omega), nmR]
    refine ev_ite (fun c => ?_) (fun c => ?_)
    · rw [decide_eq_true (show 1 ≤ (a.size : Int) by omega), Bool.true_and]; exact Ev.now _
    · rw [decide_eq_false (show ¬ 1 ≤ (a.size : Int) by omega), Bool.false_and]; exact Ev.now _
  | succ d ih =>
    intro i h
    have ih' := ih (i + 1) (by omega)
    refine ev_succ ?_
    simp only [spec_IsName.l0, if_pos (show ((i : Int) < (a.size : Int)) by omega), if_pos (nn _), nmR]
    rw [show wrap64 ((i : Int) + 1) = ((i + 1 : Nat) : Int) by unfold wrap64; omega]
    generalize bt a (i : Int) = b
    have hi : ((i : Int) = 0) = (i = 0) := by simp
    simp only [nmC, hi]
    by_cases h1 : 97 ≤ b <;> by_cases h2 : b ≤ 122 <;> by_cases h3 : 48 ≤ b <;> by_cases h4 : b ≤ 57 <;> by_cases h5 : i = 0 <;> first | (exfalso; omega) | skip
    all_goals simp only [ge_iff_le, h1, h2, h3, h4, h5, decide_true, decide_false, Bool.true_and, Bool.false_and, Bool.and_true, Bool.and_false, Bool.or_true, Bool.true_or, Bool.or_false, Bool.false_or, Bool.not_true, Bool.not_false, if_true, if_false]
    all_goals first | exact Ev.now _ | exact ih' | (subst h5; exact ih')
theorem spec_IsName_ev (a : ByteArray) (ha : a.size ≤ 9223372036854775807) : Ev (fun k => spec_IsName.f k a) (pName a) := spec_IsName_l0 a ha a.size 0 (by omega)
theorem impl_IsName_l0 (a : ByteArray) (ha : a.size ≤ 9223372036854775807) : ∀ (d i : Nat), i + d = a.size → Ev (fun k => impl_IsName.l0 k a (a.size : Int) (i : Int)) (nmR a d i) := by
  intro d
  induction d with
  | zero =>
    intro i h
    refine ev_succ ?_
    simp only [impl_IsName.l0, if_neg (show ¬ ((i : Int) < (a.size : Int)) by omega), nmR, impl_isWithin_eq, Option.bind_some]
    exact Ev.now _
  | succ d ih =>
    intro i h
    have ih' := ih (i + 1) (by omega)
    refine ev_succ ?_
    simp only [impl_IsName.l0, if_pos (show ((i : Int) < (a.size : Int)) by omega), if_pos (nn _), nmR]
    rw [show wrap64 ((i : Int) + 1) = ((i + 1 : Nat) : Int) by unfold wrap64; omega]
    generalize bt a (i : Int) = b
    have hi : ((i : Int) = 0) = (i = 0) := by simp
    simp only [nmC, hi, gt_iff_lt, ← Int.not_le]
    by_cases h1 : 97 ≤ b <;> by_cases h2 : b ≤ 122 <;> by_cases h3 : 48 ≤ b <;> by_cases h4 : b ≤ 57 <;> by_cases h5 : i = 0 <;> first | (exfalso; omega) | skip
    all_goals simp only [ge_iff_le, h1, h2, h3, h4, h5, not_true_eq_false, not_false_eq_true, decide_true, decide_false, Bool.true_and, Bool.false_and, Bool.and_true, Bool.and_false, Bool.or_true, Bool.true_or, Bool.or_false, Bool.false_or, Bool.not_true, Bool.not_false, if_true, if_false]
    all_goals first | exact Ev.now _ | exact ih' | (subst h5; exact ih')
theorem impl_IsName_ev (a : ByteArray) (ha : a.size ≤ 9223372036854775807) : Ev (fun k => impl_IsName.f k a) (pName a) := impl_IsName_l0 a ha a.size 0 (by omega)
def pCue (t : Int) (n : ByteArray) (v r : Int) : Bool := (decide (0 ≤ t) && decide (t ≤ 64)) && (pName n && ((decide (0 ≤ v) && decide (v ≤ 32)) && (decide (0 ≤ r) && decide (r ≤ 16))))
theorem spec_IsCue_ev (t : Int) (n : ByteArray) (v r : Int) (hn : n.size ≤ 9223372036854775807) : Ev (fun k => spec_IsCue.f k t n v r) (pCue t n v r) := by
  simp only [spec_IsCue.f, spec_l1In_eq, Option.bind_some, pCue]
  refine ev_ite (fun c => ?_) (fun c => ?_)
  · rw [c, Bool.true_and]
    refine Ev.bind (spec_IsName_ev n hn) ?_
    refine ev_ite (fun c => ?_) (fun c => ?_)
    · rw [c, Bool.true_and]
      refine ev_ite (fun c => ?_) (fun c => ?_)
      · rw [c, Bool.true_and]; exact Ev.now _
      · rw [Bool.eq_false_iff.2 c, Bool.false_and]; exact Ev.now _
    · rw [Bool.eq_false_iff.2 c, Bool.false_and]; exact Ev.now _
  · rw [Bool.eq_false_iff.2 c, Bool.false_and]; exact Ev.now _
theorem impl_IsCue_ev (t : Int) (n : ByteArray) (v r : Int) (hn : n.size ≤ 9223372036854775807) : Ev (fun k => impl_IsCue.f k t n v r) (pCue t n v r) := by
  simp only [impl_IsCue.f, impl_isWithin_eq, Option.bind_some, pCue]
  refine ev_ite (fun c => ?_) (fun c => ?_)
  · rw [c, Bool.true_and]
    refine Ev.bind (impl_IsName_ev n hn) ?_
    refine ev_ite (fun c => ?_) (fun c => ?_)
    · rw [c, Bool.true_and]
      refine ev_ite (fun c => ?_) (fun c => ?_)
      · rw [c, Bool.true_and]; exact Ev.now _
      · rw [Bool.eq_false_iff.2 c, Bool.false_and]; exact Ev.now _
    · rw [Bool.eq_false_iff.2 c, Bool.false_and]; exact Ev.now _
  · rw [Bool.eq_false_iff.2 c, Bool.false_and]; exact Ev.now _
theorem laws_szCue_eq (t : Int) (n : ByteArray) (v r m : Int) (h0 : 0 ≤ m) (h1 : m ≤ 1048576) (hn : n.size ≤ maxLen) : laws_szCue.f t n v r m = some (if m - (n.size : Int) < 0 then -1 else m - (n.size : Int)) := by
  have : (n.size : Int) ≤ 9223372036854775807 := by have : maxLen = 9223372036854775807 := rfl; omega
  unfold laws_szCue.f
  rw [show wrap64 (m - (n.size : Int)) = m - (n.size : Int) by unfold wrap64; omega]
  split <;> rfl
theorem laws_toCue_eq (t : Int) (n : ByteArray) (v r : Int) : laws_toCue.f t n v r = some (t, n, v, r) := rfl
/-- A number in decimal digits. -/
def pNum (n : Int) : ByteArray := ⟨(Go.Lib.itoa n).toArray⟩
theorem decDigits_len : ∀ (u : Nat), (Go.Lib.decDigits u).length ≤ u + 1 := by
  intro u
  induction u using Nat.strongRecOn with
  | ind u ih =>
    rw [Go.Lib.decDigits]
    split
    · simp
    · rw [List.length_append]
      have := ih (u / 10) (by omega)
      simp only [List.length_cons, List.length_nil]
      omega
theorem pNum_nn (n : Nat) : pNum (n : Int) = ⟨(Go.Lib.decDigits n).toArray⟩ := by
  unfold pNum Go.Lib.itoa
  rw [if_neg (by omega), Int.toNat_natCast]
theorem pNum_size (n : Nat) : (pNum (n : Int)).size ≤ n + 1 := by
  rw [pNum_nn]
  show (Go.Lib.decDigits n).toArray.size ≤ n + 1
  rw [List.size_toArray]; exact decDigits_len n
theorem strOfNums_one (m : Nat) : strOfNums [(m : Int)] = ⟨#[UInt8.ofNat m]⟩ := by simp [strOfNums]
theorem pNum_small {n : Nat} (h : n < 10) : pNum (n : Int) = ⟨#[UInt8.ofNat (48 + n)]⟩ := by
  rw [pNum_nn, Go.Lib.decDigits, dif_pos h]
theorem pNum_step {n : Nat} (h : ¬ n < 10) : pNum (n : Int) = pNum ((n / 10 : Nat) : Int) ++ ⟨#[UInt8.ofNat (48 + n % 10)]⟩ := by
  rw [pNum_nn, pNum_nn, Go.Lib.decDigits, dif_neg h]
  apply ByteArray.ext
  simp [ByteArray.data_append]
theorem tdivn (n m : Nat) : Int.tdiv (n : Int) (m : Int) = ((n / m : Nat) : Int) := by rw [Int.tdiv_eq_ediv_of_nonneg (by omega)]; rfl
theorem tmodn (n m : Nat) : Int.tmod (n : Int) (m : Int) = ((n % m : Nat) : Int) := by rw [Int.tmod_eq_emod_of_nonneg (by omega)]; rfl
theorem impl_FormatNumber_eq (n : Int) (h0 : -9223372036854775808 ≤ n) (h1 : n ≤ 9223372036854775807) : impl_FormatNumber.f n = some (pNum n) := by
  unfold impl_FormatNumber.f strconv_Itoa.f
  rw [if_pos ⟨h0, h1⟩]; rfl
theorem impl_FormatNumber_ev (n : Int) (h0 : -9223372036854775808 ≤ n) (h1 : n ≤ 9223372036854775807) : Ev (fun _ => impl_FormatNumber.f n) (pNum n) := by
  rw [impl_FormatNumber_eq n h0 h1]; exact Ev.now _
theorem spec_FormatNumber_ev : ∀ (n : Nat), n ≤ 1000000 → Ev (fun k => spec_FormatNumber.f k (n : Int)) (pNum (n : Int)) := by
  intro n
  induction n using Nat.strongRecOn with
  | ind n ih =>
    intro hn
    refine ev_succ ?_
    simp only [spec_FormatNumber.f, if_neg (show ¬ (n : Int) = -9223372036854775808 by omega), if_neg (show ¬ (n : Int) < 0 by omega), Option.bind_some]
    have e1 : (wrap64 (48 + Int.tmod (n : Int) 10)) % 256 = ((48 + n % 10 : Nat) : Int) := by
      rw [show (10 : Int) = ((10 : Nat) : Int) from rfl, tmodn]; unfold wrap64; omega
    have e2 : wrap64 (Int.tdiv (n : Int) 10) = ((n / 10 : Nat) : Int) := by
      rw [show (10 : Int) = ((10 : Nat) : Int) from rfl, tdivn]; unfold wrap64; omega
    rw [e1, e2, strOfNums_one]
    refine ev_ite (fun c => ?_) (fun c => ?_)
    · refine Ev.bind (ih (n / 10) (by omega) (by omega)) ?_
      have hs := pNum_size (n / 10)
      have h1 : (⟨#[UInt8.ofNat (48 + n % 10)]⟩ : ByteArray).size = 1 := rfl
      rw [← pNum_step (show ¬ n < 10 by omega)]
      exact ev_ite (fun _ => Ev.now _) (fun c2 => absurd (show _ by omega) c2)
    · rw [pNum_small (show n < 10 by omega), show n % 10 = n by omega]
      exact Ev.now _
/-- What stands behind the point: eighths. -/
def fracL : List ByteArray := [(⟨#[]⟩ : ByteArray), (⟨#[46, 49, 50, 53]⟩ : ByteArray), (⟨#[46, 50, 53]⟩ : ByteArray), (⟨#[46, 51, 55, 53]⟩ : ByteArray), (⟨#[46, 53]⟩ : ByteArray), (⟨#[46, 54, 50, 53]⟩ : ByteArray), (⟨#[46, 55, 53]⟩ : ByteArray), (⟨#[46, 56, 55, 53]⟩ : ByteArray)]
def fracT (r : Nat) : ByteArray := rdOf ByteArray.empty fracL (r : Int)
def sgnT (x : Int) : ByteArray := if x < 0 then ⟨#[45]⟩ else ⟨#[]⟩
/-- FormatMeasure -/
def pFmt (x : Int) : ByteArray := if -4096 ≤ x ∧ x ≤ 4096 then sgnT x ++ pNum ((x.natAbs / 8 : Nat) : Int) ++ fracT (x.natAbs % 8) else ⟨#[]⟩
theorem fracT_size (r : Nat) (h : r < 8) : (fracT r).size ≤ 4 := by
  have : r = 0 ∨ r = 1 ∨ r = 2 ∨ r = 3 ∨ r = 4 ∨ r = 5 ∨ r = 6 ∨ r = 7 := by omega
  rcases this with rfl | rfl | rfl | rfl | rfl | rfl | rfl | rfl <;> decide
theorem sgnT_size (x : Int) : (sgnT x).size ≤ 1 := by
  unfold sgnT; split <;> decide
theorem pFmt_size (x : Int) : (pFmt x).size ≤ 1000 := by
  unfold pFmt
  split
  · rename_i h
    rw [ByteArray.size_append, ByteArray.size_append]
    have h1 := sgnT_size x
    have h2 := pNum_size (x.natAbs / 8)
    have h3 := fracT_size (x.natAbs % 8) (by omega)
    omega
  · show 0 ≤ 1000
    omega
theorem trim_frac (r : Nat) (h1 : 1 ≤ r) (h7 : r ≤ 7) : ∃ s t, pNum ((1000 + r * 125 : Nat) : Int) = s ∧ s.size = 4 ∧ strings_TrimRight.f (s.extract 1 s.size) (⟨#[48]⟩ : ByteArray) = some t ∧ t.size ≤ 3 ∧ (⟨#[46]⟩ : ByteArray) ++ t = fracT r := by
  have : r = 1 ∨ r = 2 ∨ r = 3 ∨ r = 4 ∨ r = 5 ∨ r = 6 ∨ r = 7 := by omega
  rcases this with rfl | rfl | rfl | rfl | rfl | rfl | rfl
  · exact ⟨⟨#[49, 49, 50, 53]⟩, ⟨#[49, 50, 53]⟩, by rw [pNum_nn]; simp [Go.Lib.decDigits], rfl, rfl, by decide, rfl⟩
  · exact ⟨⟨#[49, 50, 53, 48]⟩, ⟨#[50, 53]⟩, by rw [pNum_nn]; simp [Go.Lib.decDigits], rfl, rfl, by decide, rfl⟩
  · exact ⟨⟨#[49, 51, 55, 53]⟩, ⟨#[51, 55, 53]⟩, by rw [pNum_nn]; simp [Go.Lib.decDigits], rfl, rfl, by decide, rfl⟩
  · exact ⟨⟨#[49, 53, 48, 48]⟩, ⟨#[53]⟩, by rw [pNum_nn]; simp [Go.Lib.decDigits], rfl, rfl, by decide, rfl⟩
  · exact ⟨⟨#[49, 54, 50, 53]⟩, ⟨#[54, 50, 53]⟩, by rw [pNum_nn]; simp [Go.Lib.decDigits], rfl, rfl, by decide, rfl⟩
  · exact ⟨⟨#[49, 55, 53, 48]⟩, ⟨#[55, 53]⟩, by rw [pNum_nn]; simp [Go.Lib.decDigits], rfl, rfl, by decide, rfl⟩
  · exact ⟨⟨#[49, 56, 55, 53]⟩, ⟨#[56, 55, 53]⟩, by rw [pNum_nn]; simp [Go.Lib.decDigits], rfl, rfl, by decide, rfl⟩
theorem impl_FormatMeasure_j0 (y : Nat) (hy : y ≤ 4096) (s : ByteArray) (hs : s.size ≤ 1) : Ev (fun k => impl_FormatMeasure.j0 k (y : Int) s) (s ++ pNum ((y / 8 : Nat) : Int) ++ fracT (y % 8)) := by
  have e1 : wrap64 (Int.tdiv (y : Int) 8) = ((y / 8 : Nat) : Int) := by
    rw [show (8 : Int) = ((8 : Nat) : Int) from rfl, tdivn]; unfold wrap64; omega
  have e2 : Int.tmod (y : Int) 8 = ((y % 8 : Nat) : Int) := by rw [show (8 : Int) = ((8 : Nat) : Int) from rfl, tmodn]
  have e3 : wrap64 (1000 + wrap64 (((y % 8 : Nat) : Int) * 125)) = ((1000 + (y % 8) * 125 : Nat) : Int) := by unfold wrap64; omega
  have hn := pNum_size (y / 8)
  refine ev_succ ?_
  simp only [impl_FormatMeasure.j0, e1, e2, e3]
  rw [impl_FormatNumber_eq _ (by omega) (by omega), Option.bind_some]
  refine ev_ite (fun _ => ?_) (fun c => absurd (show _ by omega) c)
  refine ev_ite (fun c => ?_) (fun c => ?_)
  · obtain ⟨q, t, hq, hqs, ht, hts, hf⟩ := trim_frac (y % 8) (by omega) (by omega)
    rw [impl_FormatNumber_eq _ (by omega) (by omega), Option.bind_some, hq]
    refine ev_ite (fun _ => ?_) (fun c => absurd (show _ by omega) c)
    rw [ht, Option.bind_some, hf]
    have h4 := fracT_size (y % 8) (by omega)
    have h5 : (s ++ pNum ((y / 8 : Nat) : Int)).size = s.size + (pNum ((y / 8 : Nat) : Int)).size := ByteArray.size_append ..
    refine ev_ite (fun _ => ?_) (fun c => absurd (show _ by omega) c)
    exact ev_ite (fun _ => Ev.now _) (fun c => absurd (show _ by omega) c)
  · have h0 : y % 8 = 0 := by omega
    rw [h0]
    have : fracT 0 = (⟨#[]⟩ : ByteArray) := rfl
    rw [this]
    have h6 : ∀ z : ByteArray, z ++ (⟨#[]⟩ : ByteArray) = z := fun z => by apply ByteArray.ext; simp [ByteArray.data_append]
    rw [h6]
    exact Ev.now _
theorem impl_FormatMeasure_ev (x : Int) : Ev (fun k => impl_FormatMeasure.f k x) (pFmt x) := by
  simp only [impl_FormatMeasure.f, impl_IsMeasure_eq, Option.bind_some, pMeas', pFmt]
  refine ev_ite (fun h => ?_) (fun h => ?_)
  · simp only [Bool.and_eq_true, decide_eq_true_eq] at h
    rw [if_pos h]
    unfold sgnT
    refine ev_ite (fun c => ?_) (fun c => ?_)
    · rw [if_pos c, show wrap64 (-x) = ((x.natAbs : Nat) : Int) by unfold wrap64; omega]
      exact impl_FormatMeasure_j0 x.natAbs (by omega) (⟨#[45]⟩ : ByteArray) (by decide)
    · rw [if_neg c]
      have := impl_FormatMeasure_j0 x.natAbs (by omega) (⟨#[]⟩ : ByteArray) (by decide)
      rw [show ((x.natAbs : Nat) : Int) = x by omega] at this
      exact this
  · have h' : ¬ (-4096 ≤ x ∧ x ≤ 4096) := by simpa using h
    rw [if_neg h']; exact Ev.now _
theorem spec_FormatMeasure_ev (x : Int) : Ev (fun k => spec_FormatMeasure.f k x) (pFmt x) := by
  have key : ∀ (y : Nat) (s : ByteArray), y ≤ 4096 → s.size ≤ 1 → Ev (fun k => (spec_FormatNumber.f k ((y / 8 : Nat) : Int)).bind fun t133 => (if s.size + t133.size ≤ 9223372036854775807 then ((some fracL).bind fun y134 => (if 0 ≤ ((y % 8 : Nat) : Int) then (if ((y % 8 : Nat) : Int) < (y134.length : Int) then (if (s ++ t133).size + (rdOf ByteArray.empty y134 ((y % 8 : Nat) : Int)).size ≤ 9223372036854775807 then (some ((s ++ t133) ++ (rdOf ByteArray.empty y134 ((y % 8 : Nat) : Int)))) else (none)) else (none)) else (none))) else (none))) (s ++ pNum ((y / 8 : Nat) : Int) ++ fracT (y % 8)) := by
    intro y s hy hs
    have hn := pNum_size (y / 8)
    have h4 := fracT_size (y % 8) (by omega)
    have h5 : (s ++ pNum ((y / 8 : Nat) : Int)).size = s.size + (pNum ((y / 8 : Nat) : Int)).size := ByteArray.size_append ..
    refine Ev.bind (spec_FormatNumber_ev (y / 8) (by omega)) ?_
    refine ev_ite (fun _ => ?_) (fun c => absurd (show _ by omega) c)
    simp only [Option.bind_some]
    refine ev_ite (fun _ => ?_) (fun c => absurd (show _ by omega) c)
    refine ev_ite (fun _ => ?_) (fun c => absurd (show ((y % 8 : Nat) : Int) < (fracL.length : Int) by show _ < (8 : Int); omega) c)
    change Ev (fun _ => if (s ++ pNum ((y / 8 : Nat) : Int)).size + (fracT (y % 8)).size ≤ 9223372036854775807 then some (s ++ pNum ((y / 8 : Nat) : Int) ++ fracT (y % 8)) else none) _
    exact ev_ite (fun _ => Ev.now _) (fun c => absurd (show _ by omega) c)
  simp only [spec_FormatMeasure.f, spec_IsMeasure_eq, Option.bind_some, pMeas, pFmt]
  refine ev_ite (fun h => ?_) (fun h => ?_)
  · simp only [Bool.and_eq_true, decide_eq_true_eq] at h
    rw [if_pos h]
    unfold sgnT
    refine ev_ite (fun c => ?_) (fun c => ?_)
    · rw [if_pos c, show wrap64 (-x) = ((x.natAbs : Nat) : Int) by unfold wrap64; omega]
      have e1 : wrap64 (Int.tdiv ((x.natAbs : Nat) : Int) 8) = ((x.natAbs / 8 : Nat) : Int) := by
        rw [show (8 : Int) = ((8 : Nat) : Int) from rfl, tdivn]; unfold wrap64; omega
      have e2 : Int.tmod ((x.natAbs : Nat) : Int) 8 = ((x.natAbs % 8 : Nat) : Int) := by rw [show (8 : Int) = ((8 : Nat) : Int) from rfl, tmodn]
      rw [e1, e2]
      exact key x.natAbs (⟨#[45]⟩ : ByteArray) (by omega) (by decide)
    · rw [if_neg c]
      have hx : ((x.natAbs : Nat) : Int) = x := by omega
      have e1 : wrap64 (Int.tdiv x 8) = ((x.natAbs / 8 : Nat) : Int) := by
        rw [← hx, show (8 : Int) = ((8 : Nat) : Int) from rfl, tdivn]; unfold wrap64; omega
      have e2 : Int.tmod x 8 = ((x.natAbs % 8 : Nat) : Int) := by rw [← hx, show (8 : Int) = ((8 : Nat) : Int) from rfl, tmodn]; rfl
      rw [e1, e2]
      exact key x.natAbs (⟨#[]⟩ : ByteArray) (by omega) (by decide)
  · have h' : ¬ (-4096 ≤ x ∧ x ≤ 4096) := by simpa using h
    rw [if_neg h']; exact Ev.now _
theorem nmR_size {a : ByteArray} : ∀ (d i : Nat), nmR a d i = true → a.size ≤ 8
  | 0, i, h => by
    unfold nmR at h
    simp only [Bool.and_eq_true, decide_eq_true_eq] at h
    omega
  | d + 1, i, h => by
    unfold nmR at h
    rw [Bool.and_eq_true] at h
    exact nmR_size d (i + 1) h.2
theorem pName_size {a : ByteArray} (h : pName a = true) : a.size ≤ 8 := nmR_size _ _ h
/-- FormatCue -/
def pCueB (t : Int) (n : ByteArray) (v : Int) : ByteArray := (((pNum t ++ (⟨#[32]⟩ : ByteArray)) ++ n) ++ (⟨#[32]⟩ : ByteArray)) ++ pFmt v
def pCueT (t : Int) (n : ByteArray) (v r : Int) : ByteArray := if pCue t n v r = true then (if r = 0 then pCueB t n v else pCueB t n v ++ ((⟨#[32, 105, 110, 32]⟩ : ByteArray) ++ pNum r)) else ⟨#[]⟩
theorem pCue_num {t : Int} {n : ByteArray} {v r : Int} (h : pCue t n v r = true) : (0 ≤ t ∧ t ≤ 64) ∧ n.size ≤ 8 ∧ 0 ≤ r ∧ r ≤ 16 := by
  simp only [pCue, Bool.and_eq_true, decide_eq_true_eq] at h
  exact ⟨h.1, pName_size h.2.1, h.2.2.2⟩
theorem pNum_sz (t : Int) (h0 : 0 ≤ t) (h1 : t ≤ 100000) : (pNum t).size ≤ 100001 := by
  obtain ⟨m, rfl⟩ := Int.eq_ofNat_of_zero_le h0
  have := pNum_size m
  omega
theorem impl_FormatCue_ev (t : Int) (n : ByteArray) (v r : Int) (hn : n.size ≤ 9223372036854775807) : Ev (fun k => impl_FormatCue.f k t n v r) (pCueT t n v r) := by
  unfold impl_FormatCue.f pCueT
  refine Ev.bind (impl_IsCue_ev t n v r hn) ?_
  refine ev_ite (fun h => ?_) (fun h => ?_)
  · rw [if_pos h]
    obtain ⟨⟨t0, t1⟩, hs, r0, r1⟩ := pCue_num h
    have ht := pNum_sz t t0 (by omega)
    have hr := pNum_sz r r0 (by omega)
    have hv := pFmt_size v
    refine Ev.bind (impl_FormatNumber_ev t (by omega) (by omega)) ?_
    have z1 : (⟨#[32]⟩ : ByteArray).size = 1 := rfl
    have z4 : (⟨#[32, 105, 110, 32]⟩ : ByteArray).size = 4 := rfl
    refine ev_ite (fun _ => ?_) (fun c => absurd (show _ by omega) c)
    refine ev_ite (fun _ => ?_) (fun c => absurd (show _ by rw [ByteArray.size_append]; omega) c)
    refine ev_ite (fun _ => ?_) (fun c => absurd (show _ by rw [ByteArray.size_append, ByteArray.size_append]; omega) c)
    refine Ev.bind (impl_FormatMeasure_ev v) ?_
    refine ev_ite (fun _ => ?_) (fun c => absurd (show _ by rw [ByteArray.size_append, ByteArray.size_append, ByteArray.size_append]; omega) c)
    refine ev_ite (fun c => ?_) (fun c => ?_)
    · rw [if_pos c]; exact Ev.now _
    · rw [if_neg c]
      refine Ev.bind (impl_FormatNumber_ev r (by omega) (by omega)) ?_
      refine ev_ite (fun _ => ?_) (fun c => absurd (show _ by omega) c)
      exact ev_ite (fun _ => Ev.now _) (fun c => absurd (show _ by simp only [ByteArray.size_append]; omega) c)
  · rw [if_neg h]; exact Ev.now _
theorem spec_FormatCue_ev (t : Int) (n : ByteArray) (v r : Int) (hn : n.size ≤ 9223372036854775807) : Ev (fun k => spec_FormatCue.f k t n v r) (pCueT t n v r) := by
  unfold spec_FormatCue.f pCueT
  refine Ev.bind (spec_IsCue_ev t n v r hn) ?_
  refine ev_ite (fun h => ?_) (fun h => ?_)
  · rw [if_pos h]
    obtain ⟨⟨t0, t1⟩, hs, r0, r1⟩ := pCue_num h
    have ht := pNum_sz t t0 (by omega)
    have hr := pNum_sz r r0 (by omega)
    have hv := pFmt_size v
    have et : ((t.toNat : Nat) : Int) = t := by omega
    have er : ((r.toNat : Nat) : Int) = r := by omega
    have ft := spec_FormatNumber_ev t.toNat (by omega)
    have fr := spec_FormatNumber_ev r.toNat (by omega)
    rw [et] at ft
    rw [er] at fr
    have z1 : (⟨#[32]⟩ : ByteArray).size = 1 := rfl
    have z4 : (⟨#[32, 105, 110, 32]⟩ : ByteArray).size = 4 := rfl
    refine Ev.bind ft ?_
    refine ev_ite (fun _ => ?_) (fun c => absurd (show _ by omega) c)
    refine ev_ite (fun _ => ?_) (fun c => absurd (show _ by rw [ByteArray.size_append]; omega) c)
    refine ev_ite (fun _ => ?_) (fun c => absurd (show _ by rw [ByteArray.size_append, ByteArray.size_append]; omega) c)
    refine Ev.bind (spec_FormatMeasure_ev v) ?_
    refine ev_ite (fun _ => ?_) (fun c => absurd (show _ by rw [ByteArray.size_append, ByteArray.size_append, ByteArray.size_append]; omega) c)
    refine ev_ite (fun c => ?_) (fun c => ?_)
    · rw [if_neg (show ¬ r = 0 by omega)]
      refine ev_ite (fun _ => ?_) (fun c => absurd (show _ by simp only [ByteArray.size_append]; omega) c)
      refine Ev.bind fr ?_
      refine ev_ite (fun _ => ?_) (fun c => absurd (show _ by simp only [ByteArray.size_append]; omega) c)
      unfold pCueB
      rw [← ByteArray.append_assoc (b := (⟨#[32, 105, 110, 32]⟩ : ByteArray))]
      exact Ev.now _
    · rw [if_pos (show r = 0 by omega)]; exact Ev.now _
  · rw [if_neg h]; exact Ev.now _
theorem FnExactFormatCue : laws_FnExactFormatCue.Pure := by
  intro t n v r _ hn _ _
  refine Ev.rounds ?_
  have hn' : n.size ≤ 9223372036854775807 := hn
  unfold laws_FnExactFormatCue.f laws_szCue.f
  simp only [laws_toCue.f, Option.bind_some]
  have tail : Ev (fun k => (spec_FormatCue.f k t n v r).bind fun t157 => (impl_FormatCue.f k t n v r).bind fun t162 => (if t162.toList = t157.toList then (some true) else (some false))) true := by
    refine Ev.bind (spec_FormatCue_ev t n v r hn') ?_
    refine Ev.bind (impl_FormatCue_ev t n v r hn') ?_
    simp only [if_true]
    exact Ev.now _
  by_cases c : wrap64 (1048576 - (n.size : Int)) < 0
  · rw [if_pos c]; exact Ev.now _
  · rw [if_neg c]
    refine ev_ite (fun _ => Ev.now _) (fun _ => ?_)
    exact tail

end Go.Proofs.YthofcclbkihemaaDoor.Pure
