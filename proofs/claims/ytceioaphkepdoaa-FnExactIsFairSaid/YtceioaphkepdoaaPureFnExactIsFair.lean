/- The law FnExactIsFair comes to true for every input: The program's IsFair returns what the reference's returns, for all arguments. No condition beside the statement's own. -/
import Derived.Test.YtceioaphkepdoaaStFnExactIsFair
namespace Go.Proofs.Ytceioaphkepdoaa.Pure
open Go Go.RowKit Go.Proofs.Ytceioaphkepdoaa.MFnExactIsFair Go.Proofs.YtceioaphkepdoaaW.PrintWords Go.Proofs.YtceioaphkepdoaaW.PrintLast Go.Proofs.YtceioaphkepdoaaW.PrintMore
set_option linter.unusedVariables false

theorem ev_succ {α : Type} {g : Nat → Option α} {r : α} (h : Ev (fun k => g (k + 1)) r) : Ev g r := Ev.step (fun _ => rfl) h
theorem ev_ite {α : Type} {c : Prop} [Decidable c] {f g : Nat → Option α} {r : α} (h : c → Ev f r) (h' : ¬ c → Ev g r) : Ev (fun k => if c then f k else g k) r := by
  by_cases hc : c
  · simp only [if_pos hc]; exact h hc
  · simp only [if_neg hc]; exact h' hc
theorem ix {α : Type} {l pre t : List α} {a : α} (h : l = pre ++ a :: t) (hl : l.length < 4611686018427387904) :
    (pre.length : Int) < (l.length : Int) ∧ (∀ d, l.getD pre.length d = a) ∧ wrap64 ((pre.length : Int) + 1) = ((pre ++ [a]).length : Int) ∧ l = (pre ++ [a]) ++ t := by
  subst h
  simp only [List.length_append, List.length_cons, List.length_nil] at *
  refine ⟨by omega, fun d => by simp [List.getD], by unfold wrap64; omega, by simp⟩
theorem ixn {α : Type} {l pre : List α} (h : l = pre ++ []) : ¬ (pre.length : Int) < (l.length : Int) := by
  subst h; simp
theorem nn (n : Nat) : (0 : Int) ≤ (n : Int) := Int.natCast_nonneg n
theorem w64 {n : Int} (h0 : -9223372036854775808 ≤ n) (h1 : n < 9223372036854775808) : wrap64 n = n := by unfold wrap64; omega
theorem mn_min (a b : Int) : mn a b = min a b := by unfold mn; omega
theorem mx_max (a b : Int) : mx a b = max a b := by unfold mx; omega
theorem set_app {α : Type} (pre t : List α) (a b : α) : (pre ++ a :: t).set pre.length b = pre ++ b :: t := by simp
theorem app1 {α : Type} (pre : List α) (a : α) (t : List α) : pre ++ a :: t = (pre ++ [a]) ++ t := by simp

/-- The numbers from c on, n of them. -/
def upto : Nat → Int → List Int
  | 0, _ => []
  | n + 1, c => c :: upto n (c + 1)
theorem upto_length : ∀ n c, (upto n c).length = n
  | 0, _ => rfl
  | n + 1, c => by simp [upto, upto_length n]

theorem spec_l1In_eq (a b c : Int) : spec_l1In.f a b c = some (decide (b ≤ a) && decide (a ≤ c)) := by
  unfold spec_l1In.f; split <;> simp <;> omega
theorem impl_isWithin_eq (a b c : Int) : impl_isWithin.f a b c = some (decide (b ≤ a) && decide (a ≤ c)) := by
  unfold impl_isWithin.f; split <;> simp <;> omega
theorem spec_l1Min_eq (a b : Int) : spec_l1Min.f a b = some (min a b) := by
  unfold spec_l1Min.f; split <;> simp <;> omega

theorem laws_toIntS_l0 (l : List Int) (hl : l.length < 1099511627776) : ∀ (suf pre : List Int), l = pre ++ suf →
    Ev (fun k => laws_toIntS.l0 k l (pre ++ List.replicate suf.length 0) (pre.length : Int)) l := by
  intro suf
  induction suf with
  | nil =>
    intro pre h
    refine ev_succ ?_
    simp only [laws_toIntS.l0, if_neg (ixn h)]
    simpa [h] using Ev.now l
  | cons a t ih =>
    intro pre h
    obtain ⟨h1, h2, h3, h4⟩ := ix h (by omega)
    refine ev_succ ?_
    have h5 : (pre.length : Int) < ((pre ++ List.replicate (a :: t).length (0 : Int)).length : Int) := by simp; omega
    simp only [laws_toIntS.l0, if_pos h1, if_pos (nn _), if_pos h5, Int.toNat_natCast, rd, h2, h3]
    have := ih (pre ++ [a]) h4
    rw [List.length_cons, List.replicate_succ, set_app]
    simpa using this
theorem laws_toIntS_ev (l : List Int) (hl : l.length < 1099511627776) : Ev (fun k => laws_toIntS.f k l) l := by
  have := laws_toIntS_l0 l hl l [] rfl
  simp only [laws_toIntS.f, if_pos (nn _), Int.toNat_natCast, if_pos (show l.length ≤ 35184372088832 by omega)]
  simpa using this

theorem laws_eqIntS_l0 (x y : List Int) (hx : x.length = y.length) (hl : x.length < 1099511627776) : ∀ (d i : Nat), i + d = x.length → x.take i = y.take i →
    Ev (fun k => laws_eqIntS.l0 k x y (i : Int)) (x == y) := by
  intro d
  induction d with
  | zero =>
    intro i h e
    refine ev_succ ?_
    simp only [laws_eqIntS.l0, if_neg (show ¬ ((i : Int) < (x.length : Int)) by omega)]
    rw [List.take_of_length_le (by omega), List.take_of_length_le (by omega)] at e
    simpa [e] using Ev.now true
  | succ d ih =>
    intro i h e
    refine ev_succ ?_
    simp only [laws_eqIntS.l0, if_pos (show ((i : Int) < (x.length : Int)) by omega), if_pos (nn _), if_pos (show ((i : Int) < (y.length : Int)) by omega), rd, Int.toNat_natCast]
    have hx1 : i < x.length := by omega
    have hy1 : i < y.length := by omega
    refine ev_ite (fun hc => ?_) (fun hc => ?_)
    · rw [show wrap64 ((i : Int) + 1) = ((i + 1 : Nat) : Int) by unfold wrap64; omega]
      refine ih (i + 1) (by omega) ?_
      rw [List.take_succ_eq_append_getElem hx1, List.take_succ_eq_append_getElem hy1, e]
      simp only [List.getD_eq_getElem?_getD, List.getElem?_eq_getElem hx1, List.getElem?_eq_getElem hy1, Option.getD_some] at hc
      rw [hc]
    · have : (x == y) = false := by
        rw [beq_eq_false_iff_ne]; intro e2; subst e2; exact hc rfl
      rw [this]; exact Ev.now _
theorem laws_eqIntS_ev (x y : List Int) (hl : x.length < 1099511627776) : Ev (fun k => laws_eqIntS.f k x y) (x == y) := by
  unfold laws_eqIntS.f
  refine ev_ite (fun h => ?_) (fun h => ?_)
  · exact laws_eqIntS_l0 x y (by omega) hl x.length 0 (by omega) rfl
  · have : (x == y) = false := by
      rw [beq_eq_false_iff_ne]; intro e2; subst e2; exact h rfl
    rw [this]; exact Ev.now _
theorem laws_eqIntS_rfl (x : List Int) (hl : x.length < 1099511627776) : Ev (fun k => laws_eqIntS.f k x x) true := by
  have := laws_eqIntS_ev x x hl
  rwa [beq_self_eq_true] at this

def isDem (x : Int) : Bool := decide (0 ≤ x) && decide (x ≤ 64)
/-- IsDemands -/
def pDem (l : List Int) : Bool := l.all isDem && decide ((l.length : Int) ≤ 8)
def pSup (n : Int) : Bool := decide (0 ≤ n) && decide (n ≤ 512)
def wsum (l : List Int) : Int := l.foldl (fun s x => wrap64 (s + x)) 0
def pCut (l : List Int) (level : Int) : List Int := l.map fun x => min x level
theorem pDem_len {l : List Int} (h : pDem l = true) : l.length ≤ 8 := by
  simp only [pDem, Bool.and_eq_true, decide_eq_true_eq] at h; omega
theorem pDem_mem {l : List Int} (h : pDem l = true) : ∀ x ∈ l, 0 ≤ x ∧ x ≤ 64 := by
  simp only [pDem, Bool.and_eq_true, List.all_eq_true, isDem, decide_eq_true_eq] at h
  exact h.1
theorem pCut_length (l : List Int) (v : Int) : (pCut l v).length = l.length := by simp [pCut]

theorem spec_IsDemands_l0 (l : List Int) (hl : l.length < 1099511627776) : ∀ (suf pre : List Int), l = pre ++ suf →
    Ev (fun k => spec_IsDemands.l0 k l l (l.length : Int) (pre.length : Int)) (suf.all isDem && decide ((l.length : Int) ≤ 8)) := by
  intro suf
  induction suf with
  | nil =>
    intro pre h
    refine ev_succ ?_
    simp only [spec_IsDemands.l0, if_neg (ixn h), List.all_nil, Bool.true_and]
    exact Ev.now _
  | cons a t ih =>
    intro pre h
    obtain ⟨h1, h2, h3, h4⟩ := ix h (by omega)
    refine ev_succ ?_
    simp only [spec_IsDemands.l0, if_pos h1, if_pos (nn _), Int.toNat_natCast, rd, h2, h3, spec_l1In_eq, Option.bind_some]
    change Ev (fun k => if isDem a = true then _ else _) _
    refine ev_ite (fun hc => ?_) (fun hc => ?_)
    · rw [List.all_cons, hc, Bool.true_and]; exact ih _ h4
    · rw [List.all_cons, Bool.eq_false_iff.2 hc, Bool.false_and, Bool.false_and]; exact Ev.now _
theorem spec_IsDemands_ev (l : List Int) (hl : l.length < 1099511627776) : Ev (fun k => spec_IsDemands.f k l) (pDem l) := spec_IsDemands_l0 l hl l [] rfl
theorem impl_IsDemands_l0 (l : List Int) (hl : l.length < 1099511627776) : ∀ (suf pre : List Int), l = pre ++ suf →
    Ev (fun k => impl_IsDemands.l0 k l l (l.length : Int) (pre.length : Int)) (suf.all isDem && decide ((l.length : Int) ≤ 8)) := by
  intro suf
  induction suf with
  | nil =>
    intro pre h
    refine ev_succ ?_
    simp only [impl_IsDemands.l0, if_neg (ixn h), List.all_nil, Bool.true_and]
    exact Ev.now _
  | cons a t ih =>
    intro pre h
    obtain ⟨h1, h2, h3, h4⟩ := ix h (by omega)
    refine ev_succ ?_
    simp only [impl_IsDemands.l0, if_pos h1, if_pos (nn _), Int.toNat_natCast, rd, h2, h3, impl_isWithin_eq, Option.bind_some]
    change Ev (fun k => if isDem a = true then _ else _) _
    refine ev_ite (fun hc => ?_) (fun hc => ?_)
    · rw [List.all_cons, hc, Bool.true_and]; exact ih _ h4
    · rw [List.all_cons, Bool.eq_false_iff.2 hc, Bool.false_and, Bool.false_and]; exact Ev.now _
theorem impl_IsDemands_ev (l : List Int) (hl : l.length < 1099511627776) : Ev (fun k => impl_IsDemands.f k l) (pDem l) := impl_IsDemands_l0 l hl l [] rfl
theorem spec_l5Supply_eq (n : Int) : spec_l5Supply.f n = some (pSup n) := by
  simp only [spec_l5Supply.f, spec_l1In_eq, Option.bind_some, pSup]
theorem impl_isSupply_eq (n : Int) : impl_isSupply.f n = some (pSup n) := by
  simp only [impl_isSupply.f, impl_isWithin_eq, Option.bind_some, pSup]
theorem spec_l5Sum_l0 (l : List Int) (hl : l.length < 1099511627776) : ∀ (suf pre : List Int) (s : Int), l = pre ++ suf →
    Ev (fun k => spec_l5Sum.l0 k s l (l.length : Int) (pre.length : Int)) (suf.foldl (fun s x => wrap64 (s + x)) s) := by
  intro suf
  induction suf with
  | nil =>
    intro pre s h
    refine ev_succ ?_
    simp only [spec_l5Sum.l0, if_neg (ixn h)]
    exact Ev.now _
  | cons a t ih =>
    intro pre s h
    obtain ⟨h1, h2, h3, h4⟩ := ix h (by omega)
    refine ev_succ ?_
    simp only [spec_l5Sum.l0, if_pos h1, if_pos (nn _), Int.toNat_natCast, rd, h2, h3]
    exact ih _ _ h4
theorem spec_l5Sum_ev (l : List Int) (hl : l.length < 1099511627776) : Ev (fun k => spec_l5Sum.f k l) (wsum l) := spec_l5Sum_l0 l hl l [] 0 rfl
theorem impl_sumOf_l0 (l : List Int) (hl : l.length < 1099511627776) : ∀ (suf pre : List Int) (s : Int), l = pre ++ suf →
    Ev (fun k => impl_sumOf.l0 k s l (l.length : Int) (pre.length : Int)) (suf.foldl (fun s x => wrap64 (s + x)) s) := by
  intro suf
  induction suf with
  | nil =>
    intro pre s h
    refine ev_succ ?_
    simp only [impl_sumOf.l0, if_neg (ixn h)]
    exact Ev.now _
  | cons a t ih =>
    intro pre s h
    obtain ⟨h1, h2, h3, h4⟩ := ix h (by omega)
    refine ev_succ ?_
    simp only [impl_sumOf.l0, if_pos h1, if_pos (nn _), Int.toNat_natCast, rd, h2, h3]
    exact ih _ _ h4
theorem impl_sumOf_ev (l : List Int) (hl : l.length < 1099511627776) : Ev (fun k => impl_sumOf.f k l) (wsum l) := impl_sumOf_l0 l hl l [] 0 rfl
def shOk : List Int → List Int → Bool
  | d :: l, n :: s => (decide (0 ≤ n) && decide (n ≤ d)) && shOk l s
  | [], [] => true
  | _, _ => false
/-- areShares -/
def pShares (l s : List Int) : Bool := pDem l && shOk l s
theorem shOk_len : ∀ {l s : List Int}, shOk l s = true → s.length = l.length
  | [], [], _ => rfl
  | d :: l, n :: s, h => by
    simp only [shOk, Bool.and_eq_true] at h
    simp [shOk_len h.2]
theorem pShares_len {l s : List Int} (h : pShares l s = true) : s.length = l.length ∧ l.length ≤ 8 := by
  simp only [pShares, Bool.and_eq_true] at h
  exact ⟨shOk_len h.2, pDem_len h.1⟩
theorem spec_l5Shares_l0 (l s : List Int) (hl : l.length < 1099511627776) (he : s.length = l.length) : ∀ (suf pre suf' pre' : List Int), l = pre ++ suf → s = pre' ++ suf' → pre'.length = pre.length →
    Ev (fun k => spec_l5Shares.l0 k l s (l.length : Int) (pre.length : Int)) (shOk suf suf') := by
  intro suf
  induction suf with
  | nil =>
    intro pre suf' pre' h h' hp
    have : suf' = [] := by
      have e1 := congrArg List.length h
      have e2 := congrArg List.length h'
      simp at e1 e2
      exact List.eq_nil_of_length_eq_zero (by omega)
    subst this
    refine ev_succ ?_
    simp only [spec_l5Shares.l0, if_neg (ixn h), he, beq_self_eq_true, shOk]
    exact Ev.now _
  | cons a t ih =>
    intro pre suf' pre' h h' hp
    match suf', h' with
    | [], h' =>
      exfalso
      have e1 := congrArg List.length h
      have e2 := congrArg List.length h'
      simp at e1 e2
      omega
    | b :: t', h' =>
    obtain ⟨h1, h2, h3, h4⟩ := ix h (by omega)
    obtain ⟨h1', h2', h3', h4'⟩ := ix h' (by omega)
    rw [hp] at h1' h2'
    refine ev_succ ?_
    simp only [spec_l5Shares.l0, if_pos h1, he, if_true, if_pos (nn _), Int.toNat_natCast, rd, h2, h2', h3, spec_l1In_eq, Option.bind_some]
    refine ev_ite (fun hc => ?_) (fun hc => ?_)
    · rw [shOk, hc, Bool.true_and]; exact ih _ _ _ h4 h4' (by simp [hp])
    · rw [shOk, Bool.eq_false_iff.2 hc, Bool.false_and]; exact Ev.now _
theorem spec_l5Shares_ev (l s : List Int) (hl : l.length < 1099511627776) : Ev (fun k => spec_l5Shares.f k l s) (shOk l s) := by
  unfold spec_l5Shares.f
  by_cases he : s.length = l.length
  · exact spec_l5Shares_l0 l s hl he l [] s [] rfl rfl rfl
  · have : shOk l s = false := by
      rw [Bool.eq_false_iff]; exact fun h => he (shOk_len h)
    rw [this]
    refine ev_succ ?_
    simp only [spec_l5Shares.l0, if_neg (show ¬ ((s.length : Int) = (l.length : Int)) by omega)]
    refine ev_ite (fun _ => Ev.now _) (fun _ => ?_)
    rw [show (((s.length : Int)) == (l.length : Int)) = false by rw [beq_eq_false_iff_ne]; omega]
    exact Ev.now _
theorem impl_areShares_l0 (l s : List Int) (hl : l.length < 1099511627776) (he : s.length = l.length) : ∀ (suf pre suf' pre' : List Int), l = pre ++ suf → s = pre' ++ suf' → pre'.length = pre.length →
    Ev (fun k => impl_areShares.l0 k l s (s.length : Int) (pre.length : Int)) (shOk suf suf') := by
  intro suf
  induction suf with
  | nil =>
    intro pre suf' pre' h h' hp
    have : suf' = [] := by
      have e1 := congrArg List.length h
      have e2 := congrArg List.length h'
      simp at e1 e2
      exact List.eq_nil_of_length_eq_zero (by omega)
    subst this
    refine ev_succ ?_
    simp only [impl_areShares.l0, he, if_neg (ixn h), shOk]
    exact Ev.now _
  | cons a t ih =>
    intro pre suf' pre' h h' hp
    match suf', h' with
    | [], h' =>
      exfalso
      have e1 := congrArg List.length h
      have e2 := congrArg List.length h'
      simp at e1 e2
      omega
    | b :: t', h' =>
    obtain ⟨h1, h2, h3, h4⟩ := ix h (by omega)
    obtain ⟨h1', h2', h3', h4'⟩ := ix h' (by omega)
    rw [hp] at h1' h2'
    refine ev_succ ?_
    simp only [impl_areShares.l0, he, if_pos h1, if_pos (nn _), Int.toNat_natCast, rd, h2, h2', h3, impl_isWithin_eq, Option.bind_some]
    refine ev_ite (fun hc => ?_) (fun hc => ?_)
    · rw [shOk, hc, Bool.true_and]; have := ih _ _ _ h4 h4' (by simp [hp]); rwa [he] at this
    · rw [shOk, Bool.eq_false_iff.2 hc, Bool.false_and]; exact Ev.now _
theorem impl_areShares_ev (l s : List Int) (hl : l.length < 1099511627776) : Ev (fun k => impl_areShares.f k l s) (pShares l s) := by
  have j1 : Ev (fun k => impl_areShares.j0 k l s true) false := by
    refine ev_succ ?_
    simp only [impl_areShares.j0, if_true]; exact Ev.now _
  unfold impl_areShares.f pShares
  refine Ev.bind (impl_IsDemands_ev l hl) ?_
  refine Decidable.byCases (fun h : pDem l = true => ?_) (fun h => ?_)
  · simp only [h, if_true, Bool.true_and]
    by_cases he : s.length = l.length
    · refine ev_succ ?_
      simp only [impl_areShares.j0, he, bne_self_eq_false, Bool.false_eq_true, if_false]
      have := impl_areShares_l0 l s hl he l [] s [] rfl rfl rfl
      rwa [he] at this
    · have : shOk l s = false := by
        rw [Bool.eq_false_iff]; exact fun h => he (shOk_len h)
      rw [this, show (((s.length : Int)) != (l.length : Int)) = true by rw [bne_iff_ne]; omega]
      exact j1
  · simp only [Bool.eq_false_iff.2 h, Bool.false_and, Bool.false_eq_true, if_false]
    exact j1
/-- No one who lacks has less than an eighth less than any other one. -/
def fairOk (s0 : List Int) : List Int → List Int → Bool
  | d :: l, n :: s => s0.all (fun o => !(decide (n < d) && decide (o > wrap64 (n + 1)))) && fairOk s0 l s
  | _, _ => true
/-- IsFair -/
def pFair (n : Int) (l s : List Int) : Bool := pSup n && (pShares l s && ((wsum s == min n (wsum l)) && fairOk s l s))
theorem spec_IsFair_l1 (l s : List Int) (hl : l.length < 1099511627776) (he : s.length = l.length) (i : Nat) (hi : i < l.length) (r : Bool) (hr : Ev (fun k => spec_IsFair.l0 k l s (s.length : Int) ((i : Int) + 1)) r) :
    ∀ (suf pre : List Int), s = pre ++ suf →
    Ev (fun k => spec_IsFair.l1 k l s (i : Int) (s.length : Int) (i : Int) (s.length : Int) (pre.length : Int)) (suf.all (fun o => !(decide (s.getD i 0 < l.getD i 0) && decide (o > wrap64 (s.getD i 0 + 1)))) && r) := by
  intro suf
  induction suf with
  | nil =>
    intro pre h
    refine ev_succ ?_
    simp only [spec_IsFair.l1, if_neg (ixn h), List.all_nil, Bool.true_and]
    rwa [show wrap64 ((i : Int) + 1) = (i : Int) + 1 by unfold wrap64; omega]
  | cons a t ih =>
    intro pre h
    obtain ⟨h1, h2, h3, h4⟩ := ix h (by omega)
    have := ih _ h4
    refine ev_succ ?_
    simp only [spec_IsFair.l1, if_pos h1, if_pos (nn _), Int.toNat_natCast, rd, h2, h3, if_pos (show (i : Int) < (s.length : Int) by omega), if_pos (show (i : Int) < (l.length : Int) by omega), List.all_cons]
    refine ev_ite (fun c => ?_) (fun c => ?_)
    · refine ev_ite (fun c2 => ?_) (fun c2 => ?_)
      · rw [decide_eq_true c, decide_eq_true c2]; exact Ev.now _
      · rw [decide_eq_true c, decide_eq_false c2]; simpa only [Bool.and_false, Bool.not_false, Bool.true_and, decide_eq_true c] using this
    · rw [decide_eq_false c]; simpa only [Bool.false_and, Bool.not_false, Bool.true_and, decide_eq_false c] using this
theorem spec_IsFair_l0 (l s : List Int) (hl : l.length < 1099511627776) (he : s.length = l.length) : ∀ (suf pre suf' pre' : List Int), l = pre ++ suf → s = pre' ++ suf' → pre'.length = pre.length →
    Ev (fun k => spec_IsFair.l0 k l s (s.length : Int) (pre.length : Int)) (fairOk s suf suf') := by
  intro suf
  induction suf with
  | nil =>
    intro pre suf' pre' h h' hp
    refine ev_succ ?_
    simp only [spec_IsFair.l0, he, if_neg (ixn h), fairOk]
    exact Ev.now _
  | cons a t ih =>
    intro pre suf' pre' h h' hp
    match suf', h' with
    | [], h' =>
      exfalso
      have e1 := congrArg List.length h
      have e2 := congrArg List.length h'
      simp at e1 e2
      omega
    | b :: t', h' =>
    obtain ⟨h1, h2, h3, h4⟩ := ix h (by omega)
    obtain ⟨h1', h2', h3', h4'⟩ := ix h' (by omega)
    rw [hp] at h1' h2'
    have e := ih _ _ _ h4 h4' (by simp [hp])
    have hi : pre.length < l.length := by omega
    rw [show ((pre ++ [a]).length : Int) = (pre.length : Int) + 1 by simp] at e
    have := spec_IsFair_l1 l s hl he pre.length hi _ e s [] rfl
    refine ev_succ ?_
    simp only [spec_IsFair.l0, if_pos h1']
    rw [h2, h2'] at this
    rw [fairOk]
    exact this
theorem spec_IsFair_ev (n : Int) (l s : List Int) (hl : l.length < 1099511627776) (hs : s.length < 1099511627776) : Ev (fun k => spec_IsFair.f k n l s) (pFair n l s) := by
  have j1 : Ev (fun k => spec_IsFair.j0 k l s true) false := by
    refine ev_succ ?_
    simp only [spec_IsFair.j0, if_true]; exact Ev.now _
  unfold spec_IsFair.f pFair pShares
  refine Ev.bind (spec_IsDemands_ev l hl) ?_
  cases hd : pDem l
  · simpa using j1
  · simp only [if_true, spec_l5Supply_eq, Option.bind_some]
    cases hn : pSup n
    · simpa using j1
    · simp only [if_true, Bool.true_and]
      refine Ev.bind (spec_l5Shares_ev l s hl) ?_
      cases hb : shOk l s
      · simpa using j1
      · simp only [if_true, Bool.true_and]
        refine Ev.bind (spec_l5Sum_ev s hs) ?_
        refine Ev.bind (spec_l5Sum_ev l hl) ?_
        simp only [spec_l1Min_eq, Option.bind_some]
        by_cases hw : wsum s = min n (wsum l)
        · rw [show (wsum s != min n (wsum l)) = false by simp [hw], show (wsum s == min n (wsum l)) = true by simp [hw]]
          refine ev_succ ?_
          simp only [spec_IsFair.j0, Bool.false_eq_true, if_false, Bool.true_and]
          exact spec_IsFair_l0 l s hl (shOk_len hb) l [] s [] rfl rfl rfl
        · rw [show (wsum s != min n (wsum l)) = true by simp [hw], show (wsum s == min n (wsum l)) = false by simp [hw]]
          exact j1
theorem impl_IsFair_l1 (l s : List Int) (hl : l.length < 1099511627776) (he : s.length = l.length) (i : Nat) (hi : i < l.length) (x : Int) (r : Bool) (hr : Ev (fun k => impl_IsFair.l0 k l s s (s.length : Int) ((i : Int) + 1)) r) :
    ∀ (suf pre : List Int), s = pre ++ suf →
    Ev (fun k => impl_IsFair.l1 k l s (i : Int) x s (s.length : Int) (i : Int) s (s.length : Int) (pre.length : Int)) (suf.all (fun o => !(decide (x < l.getD i 0) && decide (o > wrap64 (x + 1)))) && r) := by
  intro suf
  induction suf with
  | nil =>
    intro pre h
    refine ev_succ ?_
    simp only [impl_IsFair.l1, if_neg (ixn h), List.all_nil, Bool.true_and]
    rwa [show wrap64 ((i : Int) + 1) = (i : Int) + 1 by unfold wrap64; omega]
  | cons a t ih =>
    intro pre h
    obtain ⟨h1, h2, h3, h4⟩ := ix h (by omega)
    have := ih _ h4
    refine ev_succ ?_
    simp only [impl_IsFair.l1, if_pos h1, if_pos (nn _), Int.toNat_natCast, rd, h2, h3, if_pos (show (i : Int) < (l.length : Int) by omega), List.all_cons]
    refine ev_ite (fun c => ?_) (fun c => ?_)
    · refine ev_ite (fun c2 => ?_) (fun c2 => ?_)
      · rw [decide_eq_true c, decide_eq_true c2]; exact Ev.now _
      · rw [decide_eq_true c, decide_eq_false c2]; simpa only [Bool.and_false, Bool.not_false, Bool.true_and, decide_eq_true c] using this
    · rw [decide_eq_false c]; simpa only [Bool.false_and, Bool.not_false, Bool.true_and, decide_eq_false c] using this
theorem impl_IsFair_l0 (l s : List Int) (hl : l.length < 1099511627776) (he : s.length = l.length) : ∀ (suf pre suf' pre' : List Int), l = pre ++ suf → s = pre' ++ suf' → pre'.length = pre.length →
    Ev (fun k => impl_IsFair.l0 k l s s (s.length : Int) (pre.length : Int)) (fairOk s suf suf') := by
  intro suf
  induction suf with
  | nil =>
    intro pre suf' pre' h h' hp
    refine ev_succ ?_
    simp only [impl_IsFair.l0, he, if_neg (ixn h), fairOk]
    exact Ev.now _
  | cons a t ih =>
    intro pre suf' pre' h h' hp
    match suf', h' with
    | [], h' =>
      exfalso
      have e1 := congrArg List.length h
      have e2 := congrArg List.length h'
      simp at e1 e2
      omega
    | b :: t', h' =>
    obtain ⟨h1, h2, h3, h4⟩ := ix h (by omega)
    obtain ⟨h1', h2', h3', h4'⟩ := ix h' (by omega)
    rw [hp] at h1' h2'
    have e := ih _ _ _ h4 h4' (by simp [hp])
    have hi : pre.length < l.length := by omega
    rw [show ((pre ++ [a]).length : Int) = (pre.length : Int) + 1 by simp] at e
    have := impl_IsFair_l1 l s hl he pre.length hi b _ e s [] rfl
    refine ev_succ ?_
    simp only [impl_IsFair.l0, if_pos h1', if_pos (nn _), rd, Int.toNat_natCast, h2']
    rw [h2] at this
    rw [fairOk]
    exact this
theorem impl_IsFair_ev (n : Int) (l s : List Int) (hl : l.length < 1099511627776) (hs : s.length < 1099511627776) : Ev (fun k => impl_IsFair.f k n l s) (pFair n l s) := by
  have j1 : Ev (fun k => impl_IsFair.j0 k l s true) false := by
    refine ev_succ ?_
    simp only [impl_IsFair.j0, if_true]; exact Ev.now _
  unfold impl_IsFair.f pFair
  simp only [impl_isSupply_eq, Option.bind_some]
  cases hn : pSup n
  · simpa using j1
  · simp only [if_true, Bool.true_and]
    refine Ev.bind (impl_areShares_ev l s hl) ?_
    cases hb : pShares l s
    · simpa using j1
    · simp only [if_true, Bool.true_and]
      refine Ev.bind (impl_sumOf_ev s hs) ?_
      refine Ev.bind (impl_sumOf_ev l hl) ?_
      simp only [mn_min]
      by_cases hw : wsum s = min n (wsum l)
      · rw [show (wsum s != min n (wsum l)) = false by simp [hw], show (wsum s == min n (wsum l)) = true by simp [hw]]
        refine ev_succ ?_
        simp only [impl_IsFair.j0, Bool.false_eq_true, if_false, Bool.true_and]
        exact impl_IsFair_l0 l s hl (pShares_len hb).1 l [] s [] rfl rfl rfl
      · rw [show (wsum s != min n (wsum l)) = true by simp [hw], show (wsum s == min n (wsum l)) = false by simp [hw]]
        exact j1
theorem FnExactIsFair : laws_FnExactIsFair.Pure := by
  intro n l s _ _ _ _ _ _ _
  refine Ev.rounds ?_
  unfold laws_FnExactIsFair.f
  refine ev_ite (fun _ => Ev.now _) (fun h => ?_)
  refine ev_ite (fun _ => Ev.now _) (fun h' => ?_)
  have hl : l.length < 1099511627776 := by omega
  have hs : s.length < 1099511627776 := by omega
  refine Ev.bind (laws_toIntS_ev l hl) ?_
  refine Ev.bind (laws_toIntS_ev s hs) ?_
  refine Ev.bind (spec_IsFair_ev n l s hl hs) ?_
  refine Ev.bind (laws_toIntS_ev l hl) ?_
  refine Ev.bind (laws_toIntS_ev s hs) ?_
  refine Ev.bind (impl_IsFair_ev n l s hl hs) ?_
  simp only [bne_self_eq_false, Bool.false_eq_true, if_false]
  refine Ev.bind (laws_toIntS_ev l hl) ?_
  refine Ev.bind (laws_eqIntS_rfl l hl) ?_
  simp only [if_true]
  refine Ev.bind (laws_toIntS_ev s hs) ?_
  refine Ev.bind (laws_eqIntS_rfl s hs) ?_
  exact Ev.now _

end Go.Proofs.Ytceioaphkepdoaa.Pure
