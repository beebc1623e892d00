/- The law FnFairAlike comes to true for every input: two fair ways to share differ by at most an eighth for each. (P5) No condition beside the statement's own. -/
import Derived.Test.YtceioaphkepdoaaStFnFairAlike
namespace Go.Proofs.Ytceioaphkepdoaa.Pure
open Go Go.RowKit Go.Proofs.Ytceioaphkepdoaa.MFnFairAlike Go.Proofs.YtceioaphkepdoaaW.PrintWords Go.Proofs.YtceioaphkepdoaaW.PrintLast Go.Proofs.YtceioaphkepdoaaW.PrintMore
set_option linter.unusedVariables false

theorem ev_succ {α : Type} {g : Nat → Option α} {r : α} (h : Ev (fun k => g (k + 1)) r) : Ev g r := Ev.step (fun _ => rfl) h
theorem ev_ite {α : Type} {c : Prop} [Decidable c] {f g : Nat → Option α} {r : α} (h : c → Ev f r) (h' : ¬ c → Ev g r) : Ev (fun k => if c then f k else g k) r := by
  by_cases hc : c
  · simp only [if_pos hc]; exact h hc
  · simp only [if_neg hc]; exact h' hc
theorem ix {α : Type} {l pre t : List α} {a : α} (h : l = pre ++ a :: t) (hl : l.length < 4611686018427387904) :
    (pre.length : Int) < (l.length : Int) ∧ (∀ d, l.getD pre.length d = a) ∧ wrap64 ((pre.length : Int) + 1) = ((pre ++ [a]).length : Int) ∧ l = (pre ++ [a]) ++ t := by
  subst h
  simp only [List.length_append, List.length_cons, List.length_nil] at *
  refine ⟨by omega, fun d => by simp [List.getD], by unfold wrap64; omega, by simp⟩
theorem ixn {α : Type} {l pre : List α} (h : l = pre ++ []) : ¬ (pre.length : Int) < (l.length : Int) := by
  subst h; simp
theorem nn (n : Nat) : (0 : Int) ≤ (n : Int) := Int.natCast_nonneg n
theorem w64 {n : Int} (h0 : -9223372036854775808 ≤ n) (h1 : n < 9223372036854775808) : wrap64 n = n := by unfold wrap64; omega
theorem mn_min (a b : Int) : mn a b = min a b := by unfold mn; omega
theorem mx_max (a b : Int) : mx a b = max a b := by unfold mx; omega
theorem set_app {α : Type} (pre t : List α) (a b : α) : (pre ++ a :: t).set pre.length b = pre ++ b :: t := by simp
theorem app1 {α : Type} (pre : List α) (a : α) (t : List α) : pre ++ a :: t = (pre ++ [a]) ++ t := by simp

/-- The numbers from c on, n of them. -/
def upto : Nat → Int → List Int
  | 0, _ => []
  | n + 1, c => c :: upto n (c + 1)
theorem upto_length : ∀ n c, (upto n c).length = n
  | 0, _ => rfl
  | n + 1, c => by simp [upto, upto_length n]

theorem spec_l1In_eq (a b c : Int) : spec_l1In.f a b c = some (decide (b ≤ a) && decide (a ≤ c)) := by
  unfold spec_l1In.f; split <;> simp <;> omega
theorem impl_isWithin_eq (a b c : Int) : impl_isWithin.f a b c = some (decide (b ≤ a) && decide (a ≤ c)) := by
  unfold impl_isWithin.f; split <;> simp <;> omega
theorem spec_l1Min_eq (a b : Int) : spec_l1Min.f a b = some (min a b) := by
  unfold spec_l1Min.f; split <;> simp <;> omega

def isDem (x : Int) : Bool := decide (0 ≤ x) && decide (x ≤ 64)
/-- IsDemands -/
def pDem (l : List Int) : Bool := l.all isDem && decide ((l.length : Int) ≤ 8)
def pSup (n : Int) : Bool := decide (0 ≤ n) && decide (n ≤ 512)
def wsum (l : List Int) : Int := l.foldl (fun s x => wrap64 (s + x)) 0
def pCut (l : List Int) (level : Int) : List Int := l.map fun x => min x level
theorem pDem_len {l : List Int} (h : pDem l = true) : l.length ≤ 8 := by
  simp only [pDem, Bool.and_eq_true, decide_eq_true_eq] at h; omega
theorem pDem_mem {l : List Int} (h : pDem l = true) : ∀ x ∈ l, 0 ≤ x ∧ x ≤ 64 := by
  simp only [pDem, Bool.and_eq_true, List.all_eq_true, isDem, decide_eq_true_eq] at h
  exact h.1
theorem pCut_length (l : List Int) (v : Int) : (pCut l v).length = l.length := by simp [pCut]

theorem spec_IsDemands_l0 (l : List Int) (hl : l.length < 1099511627776) : ∀ (suf pre : List Int), l = pre ++ suf →
    Ev (fun k => spec_IsDemands.l0 k l l (l.length : Int) (pre.length : Int)) (suf.all isDem && decide ((l.length : Int) ≤ 8)) := by
  intro suf
  induction suf with
  | nil =>
    intro pre h
    refine ev_succ ?_
    simp only [spec_IsDemands.l0, if_neg (ixn h), List.all_nil, Bool.true_and]
    exact Ev.now _
  | cons a t ih =>
    intro pre h
    obtain ⟨h1, h2, h3, h4⟩ := ix h (by omega)
    refine ev_succ ?_
    simp only [spec_IsDemands.l0, if_pos h1, if_pos (nn _), Int.toNat_natCast, rd, h2, h3, spec_l1In_eq, Option.bind_some]
    change Ev (fun k => if isDem a = true then _ else _) _
    refine ev_ite (fun hc => ?_) (fun hc => ?_)
    · rw [List.all_cons, hc, Bool.true_and]; exact ih _ h4
    · rw [List.all_cons, Bool.eq_false_iff.2 hc, Bool.false_and, Bool.false_and]; exact Ev.now _
theorem spec_IsDemands_ev (l : List Int) (hl : l.length < 1099511627776) : Ev (fun k => spec_IsDemands.f k l) (pDem l) := spec_IsDemands_l0 l hl l [] rfl
theorem impl_IsDemands_l0 (l : List Int) (hl : l.length < 1099511627776) : ∀ (suf pre : List Int), l = pre ++ suf →
    Ev (fun k => impl_IsDemands.l0 k l l (l.length : Int) (pre.length : Int)) (suf.all isDem && decide ((l.length : Int) ≤ 8)) := by
  intro suf
  induction suf with
  | nil =>
    intro pre h
    refine ev_succ ?_
    simp only [impl_IsDemands.l0, if_neg (ixn h), List.all_nil, Bool.true_and]
    exact Ev.now _
  | cons a t ih =>
    intro pre h
    obtain ⟨h1, h2, h3, h4⟩ := ix h (by omega)
    refine ev_succ ?_
    simp only [impl_IsDemands.l0, if_pos h1, if_pos (nn _), Int.toNat_natCast, rd, h2, h3, impl_isWithin_eq, Option.bind_some]
    change Ev (fun k => if isDem a = true then _ else _) _
    refine ev_ite (fun hc => ?_) (fun hc => ?_)
    · rw [List.all_cons, hc, Bool.true_and]; exact ih _ h4
    · rw [List.all_cons, Bool.eq_false_iff.2 hc, Bool.false_and, Bool.false_and]; exact Ev.now _
theorem impl_IsDemands_ev (l : List Int) (hl : l.length < 1099511627776) : Ev (fun k => impl_IsDemands.f k l) (pDem l) := impl_IsDemands_l0 l hl l [] rfl
theorem spec_l5Supply_eq (n : Int) : spec_l5Supply.f n = some (pSup n) := by
  simp only [spec_l5Supply.f, spec_l1In_eq, Option.bind_some, pSup]
theorem impl_isSupply_eq (n : Int) : impl_isSupply.f n = some (pSup n) := by
  simp only [impl_isSupply.f, impl_isWithin_eq, Option.bind_some, pSup]
theorem spec_l5Sum_l0 (l : List Int) (hl : l.length < 1099511627776) : ∀ (suf pre : List Int) (s : Int), l = pre ++ suf →
    Ev (fun k => spec_l5Sum.l0 k s l (l.length : Int) (pre.length : Int)) (suf.foldl (fun s x => wrap64 (s + x)) s) := by
  intro suf
  induction suf with
  | nil =>
    intro pre s h
    refine ev_succ ?_
    simp only [spec_l5Sum.l0, if_neg (ixn h)]
    exact Ev.now _
  | cons a t ih =>
    intro pre s h
    obtain ⟨h1, h2, h3, h4⟩ := ix h (by omega)
    refine ev_succ ?_
    simp only [spec_l5Sum.l0, if_pos h1, if_pos (nn _), Int.toNat_natCast, rd, h2, h3]
    exact ih _ _ h4
theorem spec_l5Sum_ev (l : List Int) (hl : l.length < 1099511627776) : Ev (fun k => spec_l5Sum.f k l) (wsum l) := spec_l5Sum_l0 l hl l [] 0 rfl
theorem impl_sumOf_l0 (l : List Int) (hl : l.length < 1099511627776) : ∀ (suf pre : List Int) (s : Int), l = pre ++ suf →
    Ev (fun k => impl_sumOf.l0 k s l (l.length : Int) (pre.length : Int)) (suf.foldl (fun s x => wrap64 (s + x)) s) := by
  intro suf
  induction suf with
  | nil =>
    intro pre s h
    refine ev_succ ?_
    simp only [impl_sumOf.l0, if_neg (ixn h)]
    exact Ev.now _
  | cons a t ih =>
    intro pre s h
    obtain ⟨h1, h2, h3, h4⟩ := ix h (by omega)
    refine ev_succ ?_
    simp only [impl_sumOf.l0, if_pos h1, if_pos (nn _), Int.toNat_natCast, rd, h2, h3]
    exact ih _ _ h4
theorem impl_sumOf_ev (l : List Int) (hl : l.length < 1099511627776) : Ev (fun k => impl_sumOf.f k l) (wsum l) := impl_sumOf_l0 l hl l [] 0 rfl
theorem spec_l5Cut_l0 (l : List Int) (v : Int) (hl : l.length < 1099511627776) : ∀ (suf pre : List Int), l = pre ++ suf →
    Ev (fun k => spec_l5Cut.l0 k v (pCut pre v) l (l.length : Int) (pre.length : Int)) (pCut l v) := by
  intro suf
  induction suf with
  | nil =>
    intro pre h
    refine ev_succ ?_
    simp only [spec_l5Cut.l0, if_neg (ixn h)]
    simpa [h] using Ev.now (pCut l v)
  | cons a t ih =>
    intro pre h
    obtain ⟨h1, h2, h3, h4⟩ := ix h (by omega)
    refine ev_succ ?_
    simp only [spec_l5Cut.l0, if_pos h1, if_pos (nn _), Int.toNat_natCast, rd, h2, h3, spec_l1Min_eq, Option.bind_some, pCut_length, if_pos (show pre.length < 17592186044416 by omega)]
    have := ih (pre ++ [a]) h4
    simpa [pCut] using this
theorem spec_l5Cut_ev (l : List Int) (v : Int) (hl : l.length < 1099511627776) : Ev (fun k => spec_l5Cut.f k l v) (pCut l v) := spec_l5Cut_l0 l v hl l [] rfl
theorem impl_CutAt_l0 (l : List Int) (v : Int) (hl : l.length < 1099511627776) : ∀ (suf pre : List Int), l = pre ++ suf →
    Ev (fun k => impl_CutAt.l0 k v (pCut pre v) l (l.length : Int) (pre.length : Int)) (pCut l v) := by
  intro suf
  induction suf with
  | nil =>
    intro pre h
    refine ev_succ ?_
    simp only [impl_CutAt.l0, if_neg (ixn h)]
    simpa [h] using Ev.now (pCut l v)
  | cons a t ih =>
    intro pre h
    obtain ⟨h1, h2, h3, h4⟩ := ix h (by omega)
    refine ev_succ ?_
    simp only [impl_CutAt.l0, if_pos h1, if_pos (nn _), Int.toNat_natCast, rd, h2, h3, mn_min, pCut_length, if_pos (show pre.length < 17592186044416 by omega)]
    have := ih (pre ++ [a]) h4
    simpa [pCut] using this
theorem impl_CutAt_ev (l : List Int) (v : Int) (hl : l.length < 1099511627776) : Ev (fun k => impl_CutAt.f k l v) (if pDem l = true then if v < 0 then [] else pCut l v else []) := by
  have j1 : Ev (fun k => impl_CutAt.j0 k l v [] true) [] := by
    refine ev_succ ?_
    simp only [impl_CutAt.j0, if_true]; exact Ev.now _
  simp only [impl_CutAt.f, Option.bind_some]
  refine Ev.bind (impl_IsDemands_ev l hl) ?_
  refine Decidable.byCases (fun h : pDem l = true => ?_) (fun h => ?_)
  · simp only [if_pos h]
    by_cases hv : v < 0
    · simpa only [decide_eq_true hv, if_pos hv] using j1
    · simp only [decide_eq_false hv, if_neg hv]
      refine ev_succ ?_
      simp only [impl_CutAt.j0, Bool.false_eq_true, if_false]
      exact impl_CutAt_l0 l v hl l [] rfl
  · simpa only [if_neg h] using j1
def shOk : List Int → List Int → Bool
  | d :: l, n :: s => (decide (0 ≤ n) && decide (n ≤ d)) && shOk l s
  | [], [] => true
  | _, _ => false
/-- areShares -/
def pShares (l s : List Int) : Bool := pDem l && shOk l s
theorem shOk_len : ∀ {l s : List Int}, shOk l s = true → s.length = l.length
  | [], [], _ => rfl
  | d :: l, n :: s, h => by
    simp only [shOk, Bool.and_eq_true] at h
    simp [shOk_len h.2]
theorem pShares_len {l s : List Int} (h : pShares l s = true) : s.length = l.length ∧ l.length ≤ 8 := by
  simp only [pShares, Bool.and_eq_true] at h
  exact ⟨shOk_len h.2, pDem_len h.1⟩
theorem spec_l5Shares_l0 (l s : List Int) (hl : l.length < 1099511627776) (he : s.length = l.length) : ∀ (suf pre suf' pre' : List Int), l = pre ++ suf → s = pre' ++ suf' → pre'.length = pre.length →
    Ev (fun k => spec_l5Shares.l0 k l s (l.length : Int) (pre.length : Int)) (shOk suf suf') := by
  intro suf
  induction suf with
  | nil =>
    intro pre suf' pre' h h' hp
    have : suf' = [] := by
      have e1 := congrArg List.length h
      have e2 := congrArg List.length h'
      simp at e1 e2
      exact List.eq_nil_of_length_eq_zero (by omega)
    subst this
    refine ev_succ ?_
    simp only [spec_l5Shares.l0, if_neg (ixn h), he, beq_self_eq_true, shOk]
    exact Ev.now _
  | cons a t ih =>
    intro pre suf' pre' h h' hp
    match suf', h' with
    | [], h' =>
      exfalso
      have e1 := congrArg List.length h
      have e2 := congrArg List.length h'
      simp at e1 e2
      omega
    | b :: t', h' =>
    obtain ⟨h1, h2, h3, h4⟩ := ix h (by omega)
    obtain ⟨h1', h2', h3', h4'⟩ := ix h' (by omega)
    rw [hp] at h1' h2'
    refine ev_succ ?_
    simp only [spec_l5Shares.l0, if_pos h1, he, if_true, if_pos (nn _), Int.toNat_natCast, rd, h2, h2', h3, spec_l1In_eq, Option.bind_some]
    refine ev_ite (fun hc => ?_) (fun hc => ?_)
    · rw [shOk, hc, Bool.true_and]; exact ih _ _ _ h4 h4' (by simp [hp])
    · rw [shOk, Bool.eq_false_iff.2 hc, Bool.false_and]; exact Ev.now _
theorem spec_l5Shares_ev (l s : List Int) (hl : l.length < 1099511627776) : Ev (fun k => spec_l5Shares.f k l s) (shOk l s) := by
  unfold spec_l5Shares.f
  by_cases he : s.length = l.length
  · exact spec_l5Shares_l0 l s hl he l [] s [] rfl rfl rfl
  · have : shOk l s = false := by
      rw [Bool.eq_false_iff]; exact fun h => he (shOk_len h)
    rw [this]
    refine ev_succ ?_
    simp only [spec_l5Shares.l0, if_neg (show ¬ ((s.length : Int) = (l.length : Int)) by omega)]
    refine ev_ite (fun _ => Ev.now _) (fun _ => ?_)
    rw [show (((s.length : Int)) == (l.length : Int)) = false by rw [beq_eq_false_iff_ne]; omega]
    exact Ev.now _
theorem impl_areShares_l0 (l s : List Int) (hl : l.length < 1099511627776) (he : s.length = l.length) : ∀ (suf pre suf' pre' : List Int), l = pre ++ suf → s = pre' ++ suf' → pre'.length = pre.length →
    Ev (fun k => impl_areShares.l0 k l s (s.length : Int) (pre.length : Int)) (shOk suf suf') := by
  intro suf
  induction suf with
  | nil =>
    intro pre suf' pre' h h' hp
    have : suf' = [] := by
      have e1 := congrArg List.length h
      have e2 := congrArg List.length h'
      simp at e1 e2
      exact List.eq_nil_of_length_eq_zero (by omega)
    subst this
    refine ev_succ ?_
    simp only [impl_areShares.l0, he, if_neg (ixn h), shOk]
    exact Ev.now _
  | cons a t ih =>
    intro pre suf' pre' h h' hp
    match suf', h' with
    | [], h' =>
      exfalso
      have e1 := congrArg List.length h
      have e2 := congrArg List.length h'
      simp at e1 e2
      omega
    | b :: t', h' =>
    obtain ⟨h1, h2, h3, h4⟩ := ix h (by omega)
    obtain ⟨h1', h2', h3', h4'⟩ := ix h' (by omega)
    rw [hp] at h1' h2'
    refine ev_succ ?_
    simp only [impl_areShares.l0, he, if_pos h1, if_pos (nn _), Int.toNat_natCast, rd, h2, h2', h3, impl_isWithin_eq, Option.bind_some]
    refine ev_ite (fun hc => ?_) (fun hc => ?_)
    · rw [shOk, hc, Bool.true_and]; have := ih _ _ _ h4 h4' (by simp [hp]); rwa [he] at this
    · rw [shOk, Bool.eq_false_iff.2 hc, Bool.false_and]; exact Ev.now _
theorem impl_areShares_ev (l s : List Int) (hl : l.length < 1099511627776) : Ev (fun k => impl_areShares.f k l s) (pShares l s) := by
  have j1 : Ev (fun k => impl_areShares.j0 k l s true) false := by
    refine ev_succ ?_
    simp only [impl_areShares.j0, if_true]; exact Ev.now _
  unfold impl_areShares.f pShares
  refine Ev.bind (impl_IsDemands_ev l hl) ?_
  refine Decidable.byCases (fun h : pDem l = true => ?_) (fun h => ?_)
  · simp only [h, if_true, Bool.true_and]
    by_cases he : s.length = l.length
    · refine ev_succ ?_
      simp only [impl_areShares.j0, he, bne_self_eq_false, Bool.false_eq_true, if_false]
      have := impl_areShares_l0 l s hl he l [] s [] rfl rfl rfl
      rwa [he] at this
    · have : shOk l s = false := by
        rw [Bool.eq_false_iff]; exact fun h => he (shOk_len h)
      rw [this, show (((s.length : Int)) != (l.length : Int)) = true by rw [bne_iff_ne]; omega]
      exact j1
  · simp only [Bool.eq_false_iff.2 h, Bool.false_and, Bool.false_eq_true, if_false]
    exact j1
def pTurn : Int → List Int → List Int
  | _, [] => []
  | rest, x :: l => min x rest :: pTurn (wrap64 (rest - min x rest)) l
theorem pTurn_length : ∀ (l : List Int) (r : Int), (pTurn r l).length = l.length
  | [], _ => rfl
  | x :: l, r => by simp [pTurn, pTurn_length l]
/-- ShareInTurn -/
def pInTurn (n : Int) (l : List Int) : List Int := if pDem l = true then if pSup n = true then pTurn n l else [] else []
theorem pInTurn_length (n : Int) (l : List Int) : (pInTurn n l).length ≤ l.length := by
  unfold pInTurn
  repeat' split
  all_goals simp [pTurn_length]
theorem spec_ShareInTurn_l0 (l : List Int) (hl : l.length < 1099511627776) : ∀ (suf pre out : List Int) (n : Int), l = pre ++ suf → out.length = pre.length →
    Ev (fun k => spec_ShareInTurn.l0 k n out l (l.length : Int) (pre.length : Int)) (out ++ pTurn n suf) := by
  intro suf
  induction suf with
  | nil =>
    intro pre out n h ho
    refine ev_succ ?_
    simp only [spec_ShareInTurn.l0, if_neg (ixn h), pTurn, List.append_nil]
    exact Ev.now _
  | cons a t ih =>
    intro pre out n h ho
    obtain ⟨h1, h2, h3, h4⟩ := ix h (by omega)
    refine ev_succ ?_
    simp only [spec_ShareInTurn.l0, if_pos h1, if_pos (nn _), Int.toNat_natCast, rd, h2, h3, spec_l1Min_eq, Option.bind_some, if_pos (show out.length < 17592186044416 by omega)]
    have := ih (pre ++ [a]) (out ++ [min a n]) (wrap64 (n - min a n)) h4 (by simp [ho])
    simpa [pTurn] using this
theorem spec_ShareInTurn_ev (n : Int) (l : List Int) (hl : l.length < 1099511627776) : Ev (fun k => spec_ShareInTurn.f k n l) (pInTurn n l) := by
  have j1 : Ev (fun k => spec_ShareInTurn.j0 k n l [] true) [] := by
    refine ev_succ ?_
    simp only [spec_ShareInTurn.j0, if_true]; exact Ev.now _
  simp only [spec_ShareInTurn.f, Option.bind_some]
  refine Ev.bind (spec_IsDemands_ev l hl) ?_
  unfold pInTurn
  cases hd : pDem l
  · simpa using j1
  · simp only [if_true, spec_l5Supply_eq, Option.bind_some]
    cases hs : pSup n
    · simpa using j1
    · refine ev_succ ?_
      simp only [spec_ShareInTurn.j0, Bool.not_true, Bool.false_eq_true, if_false, if_true]
      exact spec_ShareInTurn_l0 l hl l [] [] n rfl rfl
/-- The greatest level at which the sum is within the supply. -/
def lev (S : Int → Int) (n : Int) : Nat → Int
  | 0 => 0
  | v + 1 => if S ((v + 1 : Nat) : Int) ≤ n then ((v + 1 : Nat) : Int) else lev S n v
theorem lev_range (S : Int → Int) (n : Int) : ∀ v : Nat, 0 ≤ lev S n v ∧ lev S n v ≤ v
  | 0 => by simp [lev]
  | v + 1 => by
    have := lev_range S n v
    unfold lev
    split <;> omega
def cutSum (l : List Int) (v : Int) : Int := wsum (pCut l v)
/-- LevelFor -/
def pLevel (n : Int) (l : List Int) : Int := if pDem l = true then if pSup n = true then lev (cutSum l) n 64 else 0 else 0
theorem pLevel_nonneg (n : Int) (l : List Int) : 0 ≤ pLevel n l := by
  unfold pLevel
  split
  · split
    · exact (lev_range _ _ _).1
    · omega
  · omega
theorem cutSum_zero {l : List Int} (h : ∀ x ∈ l, 0 ≤ x ∧ x ≤ 64) : cutSum l 0 = 0 := by
  unfold cutSum wsum pCut
  induction l with
  | nil => rfl
  | cons a t ih =>
    have ha := h a (by simp)
    simp only [List.map_cons, List.foldl_cons]
    rw [show min a 0 = 0 by omega, show wrap64 (0 + 0) = 0 by unfold wrap64; omega]
    exact ih (fun x hx => h x (by simp [hx]))
theorem impl_LevelFor_l0 (n : Int) (l : List Int) (hl : l.length < 1099511627776) (hd : pDem l = true) (hn : 0 ≤ n) : ∀ v : Nat, v < 1099511627776 →
    Ev (fun k => impl_LevelFor.l0 k n l (v : Int)) (lev (cutSum l) n v) := by
  have hc : ∀ v : Nat, Ev (fun k => impl_CutAt.f k l (v : Int)) (pCut l v) := by
    intro v
    have := impl_CutAt_ev l v hl
    rwa [if_pos hd, if_neg (by omega)] at this
  intro v
  induction v with
  | zero =>
    intro _
    refine ev_succ ?_
    simp only [impl_LevelFor.l0]
    refine Ev.bind (hc 0) ?_
    refine Ev.bind (impl_sumOf_ev _ (by rw [pCut_length]; exact hl)) ?_
    have := cutSum_zero (pDem_mem hd)
    change Ev (fun k => if cutSum l ((0 : Nat) : Int) > n then _ else _) _
    rw [show ((0 : Nat) : Int) = 0 from rfl, this]
    simp only [if_neg (show ¬ (0 > n) by omega), lev]
    exact Ev.now _
  | succ v ih =>
    intro hv
    refine ev_succ ?_
    simp only [impl_LevelFor.l0]
    refine Ev.bind (hc (v + 1)) ?_
    refine Ev.bind (impl_sumOf_ev _ (by rw [pCut_length]; exact hl)) ?_
    change Ev (fun k => if cutSum l ((v + 1 : Nat) : Int) > n then _ else _) _
    unfold lev
    refine ev_ite (fun h => ?_) (fun h => ?_)
    · rw [if_neg (by omega), show wrap64 (((v + 1 : Nat) : Int) - 1) = (v : Int) by unfold wrap64; omega]
      exact ih (by omega)
    · rw [if_pos (by omega)]
      exact Ev.now _
theorem impl_LevelFor_ev (n : Int) (l : List Int) (hl : l.length < 1099511627776) : Ev (fun k => impl_LevelFor.f k n l) (pLevel n l) := by
  have j1 : Ev (fun k => impl_LevelFor.j0 k n l true) 0 := by
    refine ev_succ ?_
    simp only [impl_LevelFor.j0, if_true]; exact Ev.now _
  unfold impl_LevelFor.f pLevel
  refine Ev.bind (impl_IsDemands_ev l hl) ?_
  cases hd : pDem l
  · simpa using j1
  · simp only [if_true, impl_isSupply_eq, Option.bind_some]
    cases hs : pSup n
    · simpa using j1
    · refine ev_succ ?_
      simp only [impl_LevelFor.j0, Bool.not_true, Bool.false_eq_true, if_false, if_true]
      have h0 : 0 ≤ n := by simp only [pSup, Bool.and_eq_true, decide_eq_true_eq] at hs; exact hs.1
      exact impl_LevelFor_l0 n l hl hd h0 64 (by omega)
theorem spec_LevelFor_l0 (n : Int) (l : List Int) (hl : l.length < 1099511627776) (hd : pDem l = true) (hs : pSup n = true) : ∀ (d v : Nat), v + d = 64 →
    Ev (fun k => spec_LevelFor.l0 k n l (lev (cutSum l) n v) ((v : Int) + 1)) (lev (cutSum l) n 64) := by
  intro d
  induction d with
  | zero =>
    intro v h
    obtain rfl : v = 64 := by omega
    refine ev_succ ?_
    simp only [spec_LevelFor.l0, if_neg (show ¬ (((64 : Nat) : Int) + 1 ≤ 64) by omega)]
    refine ev_succ ?_
    simp only [spec_LevelFor.j1, Bool.false_eq_true, if_false]
    exact Ev.now _
  | succ d ih =>
    intro v h
    refine ev_succ ?_
    simp only [spec_LevelFor.l0, if_pos (show ((v : Int) + 1 ≤ 64) by omega)]
    refine Ev.bind (spec_IsDemands_ev l hl) ?_
    simp only [hd, if_true, spec_l5Supply_eq, hs, Option.bind_some]
    refine ev_succ ?_
    simp only [spec_LevelFor.j1, if_true]
    refine Ev.bind (spec_l5Cut_ev l _ hl) ?_
    refine Ev.bind (spec_l5Sum_ev _ (by rw [pCut_length]; exact hl)) ?_
    have := ih (v + 1) (by omega)
    rw [show wrap64 ((v : Int) + 1 + 1) = ((v + 1 : Nat) : Int) + 1 by unfold wrap64; omega]
    rw [lev] at this
    change Ev (fun k => if cutSum l ((v : Int) + 1) ≤ n then _ else _) _
    refine ev_ite (fun h => ?_) (fun h => ?_)
    · rwa [if_pos (by exact h)] at this
    · rwa [if_neg (by exact h)] at this
theorem spec_LevelFor_ev (n : Int) (l : List Int) (hl : l.length < 1099511627776) : Ev (fun k => spec_LevelFor.f k n l) (pLevel n l) := by
  have j1 : ∀ v, Ev (fun k => spec_LevelFor.j1 k n l 0 v false) 0 := by
    intro v
    refine ev_succ ?_
    simp only [spec_LevelFor.j1, Bool.false_eq_true, if_false]; exact Ev.now _
  unfold pLevel
  by_cases hd : pDem l = true
  · rw [if_pos hd]
    by_cases hs : pSup n = true
    · rw [if_pos hs]
      exact spec_LevelFor_l0 n l hl hd hs 64 0 (by omega)
    · rw [if_neg hs]
      unfold spec_LevelFor.f
      refine ev_succ ?_
      simp only [spec_LevelFor.l0, if_pos (show ((1 : Int) ≤ 64) by omega)]
      refine Ev.bind (spec_IsDemands_ev l hl) ?_
      simp only [hd, if_true, spec_l5Supply_eq, Bool.eq_false_iff.2 hs, Option.bind_some]
      exact j1 1
  · rw [if_neg hd]
    unfold spec_LevelFor.f
    refine ev_succ ?_
    simp only [spec_LevelFor.l0, if_pos (show ((1 : Int) ≤ 64) by omega)]
    refine Ev.bind (spec_IsDemands_ev l hl) ?_
    simp only [if_neg hd]
    exact j1 1
/-- ShareOut's last round. -/
def shLoop (level : Int) : Int → List Int → List Int → List Int
  | rest, x :: l, o :: out => if x > level then if rest > 0 then wrap64 (o + 1) :: shLoop level (wrap64 (rest - 1)) l out else o :: shLoop level rest l out else o :: shLoop level rest l out
  | _, _, out => out
theorem shLoop_length (level : Int) : ∀ (l out : List Int) (rest : Int), (shLoop level rest l out).length = out.length
  | [], out, _ => by simp [shLoop]
  | x :: l, [], _ => by simp [shLoop]
  | x :: l, o :: out, rest => by
    unfold shLoop
    repeat' split
    all_goals simp [shLoop_length level l out]
/-- ShareOut -/
def pShare (n : Int) (l : List Int) : List Int := if pDem l = true then if pSup n = true then shLoop (pLevel n l) (wrap64 (n - cutSum l (pLevel n l))) l (pCut l (pLevel n l)) else [] else []
theorem pShare_length (n : Int) (l : List Int) : (pShare n l).length ≤ l.length := by
  unfold pShare
  repeat' split
  all_goals simp [shLoop_length, pCut]
theorem impl_ShareOut_l0 (level : Int) (l : List Int) (hl : l.length < 1099511627776) : ∀ (suf pre preo sufo : List Int) (rest : Int), l = pre ++ suf → preo.length = pre.length → sufo.length = suf.length →
    Ev (fun k => impl_ShareOut.l0 k level (preo ++ sufo) rest l (l.length : Int) (pre.length : Int)) (preo ++ shLoop level rest suf sufo) := by
  intro suf
  induction suf with
  | nil =>
    intro pre preo sufo rest h ho hs
    refine ev_succ ?_
    simp only [impl_ShareOut.l0, if_neg (ixn h), shLoop]
    exact Ev.now _
  | cons a t ih =>
    intro pre preo sufo rest h ho hs
    match sufo, hs with
    | o :: sufo, hs =>
    obtain ⟨h1, h2, h3, h4⟩ := ix h (by omega)
    have hlen : preo.length + (sufo.length + 1) = l.length := by simp [h, ho] at hs ⊢; omega
    obtain ⟨g1, g2, g3, g4⟩ := ix (l := preo ++ o :: sufo) rfl (by simp; omega)
    have hs' : sufo.length = t.length := by simpa using hs
    refine ev_succ ?_
    rw [ho] at g1 g2
    simp only [impl_ShareOut.l0, if_pos h1, if_pos (nn _), Int.toNat_natCast, rd, h2, h3, g2, if_pos g1]
    have e1 : (preo ++ o :: sufo).set pre.length (wrap64 (o + 1)) = (preo ++ [wrap64 (o + 1)]) ++ sufo := by rw [← ho, set_app]; simp
    have e2 := ih (pre ++ [a]) (preo ++ [o]) sufo rest h4 (by simp [ho]) hs'
    unfold shLoop
    refine ev_ite (fun c => ?_) (fun c => ?_)
    · rw [if_pos c]
      refine ev_ite (fun c2 => ?_) (fun c2 => ?_)
      · rw [if_pos c2, e1]
        have := ih (pre ++ [a]) (preo ++ [wrap64 (o + 1)]) sufo (wrap64 (rest - 1)) h4 (by simp [ho]) hs'
        simpa using this
      · rw [if_neg c2]; simpa using e2
    · rw [if_neg c]; simpa using e2
theorem impl_ShareOut_ev (n : Int) (l : List Int) (hl : l.length < 1099511627776) : Ev (fun k => impl_ShareOut.f k n l) (pShare n l) := by
  have j1 : Ev (fun k => impl_ShareOut.j0 k n l true) [] := by
    refine ev_succ ?_
    simp only [impl_ShareOut.j0, if_true]; exact Ev.now _
  unfold impl_ShareOut.f pShare
  refine Ev.bind (impl_IsDemands_ev l hl) ?_
  cases hd : pDem l
  · simpa using j1
  · simp only [if_true, impl_isSupply_eq, Option.bind_some]
    cases hs : pSup n
    · simpa using j1
    · refine ev_succ ?_
      simp only [impl_ShareOut.j0, Bool.not_true, Bool.false_eq_true, if_false, if_true]
      refine Ev.bind (impl_LevelFor_ev n l hl) ?_
      have hp := pLevel_nonneg n l
      have hc := impl_CutAt_ev l (pLevel n l) hl
      rw [if_pos hd, if_neg (by omega)] at hc
      refine Ev.bind hc ?_
      refine Ev.bind (impl_sumOf_ev _ (by rw [pCut_length]; exact hl)) ?_
      exact impl_ShareOut_l0 _ l hl l [] [] _ _ rfl rfl (pCut_length _ _)
theorem spec_ShareOut_l0 (level : Int) (l : List Int) (hl : l.length < 1099511627776) : ∀ (suf pre preo sufo : List Int) (rest : Int), l = pre ++ suf → preo.length = pre.length → sufo.length = suf.length →
    Ev (fun k => spec_ShareOut.l0 k level (preo ++ sufo) rest l (l.length : Int) (pre.length : Int)) (preo ++ shLoop level rest suf sufo) := by
  intro suf
  induction suf with
  | nil =>
    intro pre preo sufo rest h ho hs
    refine ev_succ ?_
    simp only [spec_ShareOut.l0, if_neg (ixn h), shLoop]
    exact Ev.now _
  | cons a t ih =>
    intro pre preo sufo rest h ho hs
    match sufo, hs with
    | o :: sufo, hs =>
    obtain ⟨h1, h2, h3, h4⟩ := ix h (by omega)
    have hlen : preo.length + (sufo.length + 1) = l.length := by simp [h, ho] at hs ⊢; omega
    obtain ⟨g1, g2, g3, g4⟩ := ix (l := preo ++ o :: sufo) rfl (by simp; omega)
    have hs' : sufo.length = t.length := by simpa using hs
    refine ev_succ ?_
    rw [ho] at g1 g2
    simp only [spec_ShareOut.l0, if_pos h1, if_pos (nn _), Int.toNat_natCast, rd, h2, h3, g2, if_pos g1]
    have e1 : (preo ++ o :: sufo).set pre.length (wrap64 (o + 1)) = (preo ++ [wrap64 (o + 1)]) ++ sufo := by rw [← ho, set_app]; simp
    have e2 := ih (pre ++ [a]) (preo ++ [o]) sufo rest h4 (by simp [ho]) hs'
    unfold shLoop
    refine ev_ite (fun c => ?_) (fun c => ?_)
    · rw [if_pos c]
      refine ev_ite (fun c2 => ?_) (fun c2 => ?_)
      · rw [if_pos c2, e1]
        have := ih (pre ++ [a]) (preo ++ [wrap64 (o + 1)]) sufo (wrap64 (rest - 1)) h4 (by simp [ho]) hs'
        simpa using this
      · rw [if_neg c2]; simpa using e2
    · rw [if_neg c]; simpa using e2
theorem spec_ShareOut_ev (n : Int) (l : List Int) (hl : l.length < 1099511627776) : Ev (fun k => spec_ShareOut.f k n l) (pShare n l) := by
  have j1 : Ev (fun k => spec_ShareOut.j0 k n l true) [] := by
    refine ev_succ ?_
    simp only [spec_ShareOut.j0, if_true]; exact Ev.now _
  unfold spec_ShareOut.f pShare
  refine Ev.bind (spec_IsDemands_ev l hl) ?_
  cases hd : pDem l
  · simpa using j1
  · simp only [if_true, spec_l5Supply_eq, Option.bind_some]
    cases hs : pSup n
    · simpa using j1
    · refine ev_succ ?_
      simp only [spec_ShareOut.j0, Bool.not_true, Bool.false_eq_true, if_false, if_true]
      refine Ev.bind (spec_LevelFor_ev n l hl) ?_
      refine Ev.bind (spec_l5Cut_ev l _ hl) ?_
      refine Ev.bind (spec_l5Sum_ev _ (by rw [pCut_length]; exact hl)) ?_
      exact spec_ShareOut_l0 _ l hl l [] [] _ _ rfl rfl (pCut_length _ _)
/-- No one who lacks has less than an eighth less than any other one. -/
def fairOk (s0 : List Int) : List Int → List Int → Bool
  | d :: l, n :: s => s0.all (fun o => !(decide (n < d) && decide (o > wrap64 (n + 1)))) && fairOk s0 l s
  | _, _ => true
/-- IsFair -/
def pFair (n : Int) (l s : List Int) : Bool := pSup n && (pShares l s && ((wsum s == min n (wsum l)) && fairOk s l s))
theorem spec_IsFair_l1 (l s : List Int) (hl : l.length < 1099511627776) (he : s.length = l.length) (i : Nat) (hi : i < l.length) (r : Bool) (hr : Ev (fun k => spec_IsFair.l0 k l s (s.length : Int) ((i : Int) + 1)) r) :
    ∀ (suf pre : List Int), s = pre ++ suf →
    Ev (fun k => spec_IsFair.l1 k l s (i : Int) (s.length : Int) (i : Int) (s.length : Int) (pre.length : Int)) (suf.all (fun o => !(decide (s.getD i 0 < l.getD i 0) && decide (o > wrap64 (s.getD i 0 + 1)))) && r) := by
  intro suf
  induction suf with
  | nil =>
    intro pre h
    refine ev_succ ?_
    simp only [spec_IsFair.l1, if_neg (ixn h), List.all_nil, Bool.true_and]
    rwa [show wrap64 ((i : Int) + 1) = (i : Int) + 1 by unfold wrap64; omega]
  | cons a t ih =>
    intro pre h
    obtain ⟨h1, h2, h3, h4⟩ := ix h (by omega)
    have := ih _ h4
    refine ev_succ ?_
    simp only [spec_IsFair.l1, if_pos h1, if_pos (nn _), Int.toNat_natCast, rd, h2, h3, if_pos (show (i : Int) < (s.length : Int) by omega), if_pos (show (i : Int) < (l.length : Int) by omega), List.all_cons]
    refine ev_ite (fun c => ?_) (fun c => ?_)
    · refine ev_ite (fun c2 => ?_) (fun c2 => ?_)
      · rw [decide_eq_true c, decide_eq_true c2]; exact Ev.now _
      · rw [decide_eq_true c, decide_eq_false c2]; simpa only [Bool.and_false, Bool.not_false, Bool.true_and, decide_eq_true c] using this
    · rw [decide_eq_false c]; simpa only [Bool.false_and, Bool.not_false, Bool.true_and, decide_eq_false c] using this
theorem spec_IsFair_l0 (l s : List Int) (hl : l.length < 1099511627776) (he : s.length = l.length) : ∀ (suf pre suf' pre' : List Int), l = pre ++ suf → s = pre' ++ suf' → pre'.length = pre.length →
    Ev (fun k => spec_IsFair.l0 k l s (s.length : Int) (pre.length : Int)) (fairOk s suf suf') := by
  intro suf
  induction suf with
  | nil =>
    intro pre suf' pre' h h' hp
    refine ev_succ ?_
    simp only [spec_IsFair.l0, he, if_neg (ixn h), fairOk]
    exact Ev.now _
  | cons a t ih =>
    intro pre suf' pre' h h' hp
    match suf', h' with
    | [], h' =>
      exfalso
      have e1 := congrArg List.length h
      have e2 := congrArg List.length h'
      simp at e1 e2
      omega
    | b :: t', h' =>
    obtain ⟨h1, h2, h3, h4⟩ := ix h (by omega)
    obtain ⟨h1', h2', h3', h4'⟩ := ix h' (by omega)
    rw [hp] at h1' h2'
    have e := ih _ _ _ h4 h4' (by simp [hp])
    have hi : pre.length < l.length := by omega
    rw [show ((pre ++ [a]).length : Int) = (pre.length : Int) + 1 by simp] at e
    have := spec_IsFair_l1 l s hl he pre.length hi _ e s [] rfl
    refine ev_succ ?_
    simp only [spec_IsFair.l0, if_pos h1']
    rw [h2, h2'] at this
    rw [fairOk]
    exact this
theorem spec_IsFair_ev (n : Int) (l s : List Int) (hl : l.length < 1099511627776) (hs : s.length < 1099511627776) : Ev (fun k => spec_IsFair.f k n l s) (pFair n l s) := by
  have j1 : Ev (fun k => spec_IsFair.j0 k l s true) false := by
    refine ev_succ ?_
    simp only [spec_IsFair.j0, if_true]; exact Ev.now _
  unfold spec_IsFair.f pFair pShares
  refine Ev.bind (spec_IsDemands_ev l hl) ?_
  cases hd : pDem l
  · simpa using j1
  · simp only [if_true, spec_l5Supply_eq, Option.bind_some]
    cases hn : pSup n
    · simpa using j1
    · simp only [if_true, Bool.true_and]
      refine Ev.bind (spec_l5Shares_ev l s hl) ?_
      cases hb : shOk l s
      · simpa using j1
      · simp only [if_true, Bool.true_and]
        refine Ev.bind (spec_l5Sum_ev s hs) ?_
        refine Ev.bind (spec_l5Sum_ev l hl) ?_
        simp only [spec_l1Min_eq, Option.bind_some]
        by_cases hw : wsum s = min n (wsum l)
        · rw [show (wsum s != min n (wsum l)) = false by simp [hw], show (wsum s == min n (wsum l)) = true by simp [hw]]
          refine ev_succ ?_
          simp only [spec_IsFair.j0, Bool.false_eq_true, if_false, Bool.true_and]
          exact spec_IsFair_l0 l s hl (shOk_len hb) l [] s [] rfl rfl rfl
        · rw [show (wsum s != min n (wsum l)) = true by simp [hw], show (wsum s == min n (wsum l)) = false by simp [hw]]
          exact j1
theorem impl_IsFair_l1 (l s : List Int) (hl : l.length < 1099511627776) (he : s.length = l.length) (i : Nat) (hi : i < l.length) (x : Int) (r : Bool) (hr : Ev (fun k => impl_IsFair.l0 k l s s (s.length : Int) ((i : Int) + 1)) r) :
    ∀ (suf pre : List Int), s = pre ++ suf →
    Ev (fun k => impl_IsFair.l1 k l s (i : Int) x s (s.length : Int) (i : Int) s (s.length : Int) (pre.length : Int)) (suf.all (fun o => !(decide (x < l.getD i 0) && decide (o > wrap64 (x + 1)))) && r) := by
  intro suf
  induction suf with
  | nil =>
    intro pre h
    refine ev_succ ?_
    simp only [impl_IsFair.l1, if_neg (ixn h), List.all_nil, Bool.true_and]
    rwa [show wrap64 ((i : Int) + 1) = (i : Int) + 1 by unfold wrap64; omega]
  | cons a t ih =>
    intro pre h
    obtain ⟨h1, h2, h3, h4⟩ := ix h (by omega)
    have := ih _ h4
    refine ev_succ ?_
    simp only [impl_IsFair.l1, if_pos h1, if_pos (nn _), Int.toNat_natCast, rd, h2, h3, if_pos (show (i : Int) < (l.length : Int) by omega), List.all_cons]
    refine ev_ite (fun c => ?_) (fun c => ?_)
    · refine ev_ite (fun c2 => ?_) (fun c2 => ?_)
      · rw [decide_eq_true c, decide_eq_true c2]; exact Ev.now _
      · rw [decide_eq_true c, decide_eq_false c2]; simpa only [Bool.and_false, Bool.not_false, Bool.true_and, decide_eq_true c] using this
    · rw [decide_eq_false c]; simpa only [Bool.false_and, Bool.not_false, Bool.true_and, decide_eq_false c] using this
theorem impl_IsFair_l0 (l s : List Int) (hl : l.length < 1099511627776) (he : s.length = l.length) : ∀ (suf pre suf' pre' : List Int), l = pre ++ suf → s = pre' ++ suf' → pre'.length = pre.length →
    Ev (fun k => impl_IsFair.l0 k l s s (s.length : Int) (pre.length : Int)) (fairOk s suf suf') := by
  intro suf
  induction suf with
  | nil =>
    intro pre suf' pre' h h' hp
    refine ev_succ ?_
    simp only [impl_IsFair.l0, he, if_neg (ixn h), fairOk]
    exact Ev.now _
  | cons a t ih =>
    intro pre suf' pre' h h' hp
    match suf', h' with
    | [], h' =>
      exfalso
      have e1 := congrArg List.length h
      have e2 := congrArg List.length h'
      simp at e1 e2
      omega
    | b :: t', h' =>
    obtain ⟨h1, h2, h3, h4⟩ := ix h (by omega)
    obtain ⟨h1', h2', h3', h4'⟩ := ix h' (by omega)
    rw [hp] at h1' h2'
    have e := ih _ _ _ h4 h4' (by simp [hp])
    have hi : pre.length < l.length := by omega
    rw [show ((pre ++ [a]).length : Int) = (pre.length : Int) + 1 by simp] at e
    have := impl_IsFair_l1 l s hl he pre.length hi b _ e s [] rfl
    refine ev_succ ?_
    simp only [impl_IsFair.l0, if_pos h1', if_pos (nn _), rd, Int.toNat_natCast, h2']
    rw [h2] at this
    rw [fairOk]
    exact this
theorem impl_IsFair_ev (n : Int) (l s : List Int) (hl : l.length < 1099511627776) (hs : s.length < 1099511627776) : Ev (fun k => impl_IsFair.f k n l s) (pFair n l s) := by
  have j1 : Ev (fun k => impl_IsFair.j0 k l s true) false := by
    refine ev_succ ?_
    simp only [impl_IsFair.j0, if_true]; exact Ev.now _
  unfold impl_IsFair.f pFair
  simp only [impl_isSupply_eq, Option.bind_some]
  cases hn : pSup n
  · simpa using j1
  · simp only [if_true, Bool.true_and]
    refine Ev.bind (impl_areShares_ev l s hl) ?_
    cases hb : pShares l s
    · simpa using j1
    · simp only [if_true, Bool.true_and]
      refine Ev.bind (impl_sumOf_ev s hs) ?_
      refine Ev.bind (impl_sumOf_ev l hl) ?_
      simp only [mn_min]
      by_cases hw : wsum s = min n (wsum l)
      · rw [show (wsum s != min n (wsum l)) = false by simp [hw], show (wsum s == min n (wsum l)) = true by simp [hw]]
        refine ev_succ ?_
        simp only [impl_IsFair.j0, Bool.false_eq_true, if_false, Bool.true_and]
        exact impl_IsFair_l0 l s hl (pShares_len hb).1 l [] s [] rfl rfl rfl
      · rw [show (wsum s != min n (wsum l)) = true by simp [hw], show (wsum s == min n (wsum l)) = false by simp [hw]]
        exact j1
theorem and255 (x : Int) : 0 ≤ Go.bits .and .i64 x 255 ∧ Go.bits .and .i64 x 255 ≤ 255 := by
  have h : ((BitVec.ofInt 64 x) &&& (BitVec.ofInt 64 255)).toNat ≤ 255 := by
    rw [BitVec.toNat_and]
    refine Nat.le_trans Nat.and_le_right ?_
    decide
  have e : Go.bits .and .i64 x 255 = IntKind.i64.wrap (((BitVec.ofInt 64 x) &&& (BitVec.ofInt 64 255)).toNat : Int) := by
    rfl
  rw [e]
  generalize ((BitVec.ofInt 64 x) &&& (BitVec.ofInt 64 255)).toNat = m at h
  rw [IntKind.wrap_i64]; omega
theorem l1Byte_ok (b : List Int) (i h : Int) (hb : b.length < 1099511627776) (hi : 0 ≤ i) : ∃ r i' h', spec_l1Byte.f b i h = some (r, i', h') ∧ 0 ≤ i' ∧ 0 ≤ r ∧ r ≤ 255 := by
  unfold spec_l1Byte.f
  split
  · exact ⟨_, _, _, rfl, by unfold wrap64; omega, and255 _⟩
  · exact ⟨_, _, _, rfl, hi, and255 _⟩
theorem l1Below_ok (b : List Int) (i h n : Int) (hb : b.length < 1099511627776) (hi : 0 ≤ i) : ∃ r i' h', spec_l1Below.f b i h n = some (r, i', h') ∧ 0 ≤ i' ∧ 0 ≤ r ∧ (r < n ∨ n ≤ 0 ∧ r = 0) := by
  unfold spec_l1Below.f
  split
  · exact ⟨_, _, _, rfl, hi, by omega, by omega⟩
  · rename_i hn
    split
    · obtain ⟨r, i', h', e, hi', h0, h1⟩ := l1Byte_ok b i h hb hi
      rw [e]; simp only [Option.bind_some]
      rw [if_neg (by omega)]
      exact ⟨_, _, _, rfl, hi', Int.tmod_nonneg _ h0, .inl (Int.tmod_lt_of_pos _ (by omega))⟩
    · obtain ⟨r, i1, h1, e, hi1, h0, h255⟩ := l1Byte_ok b i h hb hi
      rw [e]; simp only [Option.bind_some]
      obtain ⟨r2, i2, h2, e2, hi2, h02, h2552⟩ := l1Byte_ok b i1 h1 hb hi1
      rw [e2]; simp only [Option.bind_some]
      obtain ⟨r3, i3, h3, e3, hi3, h03, h2553⟩ := l1Byte_ok b i2 h2 hb hi2
      rw [e3]; simp only [Option.bind_some]
      rw [if_neg (by omega)]
      refine ⟨_, _, _, rfl, hi3, Int.tmod_nonneg _ ?_, .inl (Int.tmod_lt_of_pos _ (by omega))⟩
      unfold wrap64; omega
theorem l1Once_ok (b : List Int) (i h n : Int) (hb : b.length < 1099511627776) (hi : 0 ≤ i) : ∃ r i' h', spec_l1Once.f b i h n = some (r, i', h') ∧ 0 ≤ i' := by
  obtain ⟨r, i', h', e, hi', h0, h1⟩ := l1Below_ok b i h n hb hi
  unfold spec_l1Once.f
  rw [e]; simp only [Option.bind_some]
  exact ⟨_, _, _, rfl, hi'⟩
theorem l1Int_ok (b : List Int) (i h : Int) (l : List Int) (hb : b.length < 1099511627776) (hi : 0 ≤ i) (hl : l ≠ []) : ∃ r i' h', spec_l1Int.f b i h l = some (r, i', h') ∧ 0 ≤ i' ∧ r ∈ l := by
  obtain ⟨r, i', h', e, hi', h0, h1⟩ := l1Below_ok b i h (l.length : Int) hb hi
  have hp : 0 < l.length := List.length_pos_iff.2 hl
  unfold spec_l1Int.f
  rw [e]; simp only [Option.bind_some]
  have hlt : r < (l.length : Int) := by omega
  rw [if_pos h0, if_pos hlt]
  refine ⟨_, _, _, rfl, hi', ?_⟩
  have h2 : r.toNat < l.length := by omega
  simp only [rd, List.getD_eq_getElem?_getD, List.getElem?_eq_getElem h2, Option.getD_some]
  exact List.getElem_mem _
theorem l1Odd_ok (b : List Int) (i h : Int) (hb : b.length < 1099511627776) (hi : 0 ≤ i) : ∃ r i' h', spec_l1Odd.f b i h = some (r, i', h') ∧ 0 ≤ i' := by
  unfold spec_l1Odd.f
  obtain ⟨r, i', h', e, hi', _⟩ := l1Int_ok b i h [(-1), 0, 1, 2, 3, 7, 8, 9, 15, 16, 17, 63, 64, 65, 999, 1000, 4096, 4097, 9223372036854775807, (-9223372036854775808)] hb hi (by simp)
  rw [e]; simp only [Option.bind_some]
  exact ⟨_, _, _, rfl, hi'⟩
theorem l1New_l0 (b : List Int) (hb : b.length < 1099511627776) : ∀ (d i : Nat) (h : Int), i + d = b.length → ∃ h', Ev (fun k => spec_l1New.l0 k b h (i : Int)) (b, 0, h') := by
  intro d
  induction d with
  | zero =>
    intro i h hd
    refine ⟨h, ev_succ ?_⟩
    simp only [spec_l1New.l0, if_neg (show ¬ ((i : Int) < (b.length : Int)) by omega)]
    exact Ev.now _
  | succ d ih =>
    intro i h hd
    by_cases h4 : (i : Int) < 4000
    · obtain ⟨h', e⟩ := ih (i + 1) _ (by omega)
      refine ⟨h', ev_succ ?_⟩
      simp only [spec_l1New.l0, if_pos (show ((i : Int) < (b.length : Int)) by omega), if_pos h4, if_pos (nn _)]
      rw [show wrap64 ((i : Int) + 1) = ((i + 1 : Nat) : Int) by unfold wrap64; omega]
      exact e
    · refine ⟨h, ev_succ ?_⟩
      simp only [spec_l1New.l0, if_pos (show ((i : Int) < (b.length : Int)) by omega), if_neg h4]
      exact Ev.now _
theorem l1New_ev (b : List Int) (hb : b.length < 1099511627776) : ∃ h', Ev (fun k => spec_l1New.f k b) (b, 0, h') := l1New_l0 b hb b.length 0 _ (by omega)
theorem laws_big_eq (b : List Int) : laws_big.f b = some (decide ((b.length : Int) > 4096)) := rfl
theorem l5SupplyDraw_ok (b : List Int) (i h : Int) (hb : b.length < 1099511627776) (hi : 0 ≤ i) : ∃ r i' h', spec_l5SupplyDraw.f b i h = some (r, i', h') ∧ 0 ≤ i' := by
  unfold spec_l5SupplyDraw.f
  obtain ⟨r, i', h', e, hi'⟩ := l1Once_ok b i h 10 hb hi
  rw [e]; simp only [Option.bind_some]
  split
  · obtain ⟨r2, i2, h2, e2, hi2, _⟩ := l1Int_ok b i' h' [(-1), 512, 513, 9223372036854775807, (-9223372036854775808)] hb hi' (by simp)
    rw [e2]; simp only [Option.bind_some]
    exact ⟨_, _, _, rfl, hi2⟩
  · obtain ⟨r2, i2, h2, e2, hi2, _⟩ := l1Below_ok b i' h' 140 hb hi'
    rw [e2]; simp only [Option.bind_some]
    exact ⟨_, _, _, rfl, hi2⟩
theorem l5Draw_l0 (b : List Int) (hb : b.length < 1099511627776) : ∀ (n : Nat) (l : List Int) (i h : Int), 0 ≤ i → l.length + n < 1099511627776 →
    ∃ r i' h', Ev (fun k => spec_l5Draw.l0 k l (n : Int) b i h) (r, i', h') ∧ 0 ≤ i' ∧ r.length = l.length + n := by
  intro n
  induction n with
  | zero =>
    intro l i h hi hl
    refine ⟨l, i, h, ev_succ ?_, hi, rfl⟩
    simp only [spec_l5Draw.l0, if_neg (show ¬ (((0 : Nat) : Int) > 0) by omega)]
    exact Ev.now _
  | succ n ih =>
    intro l i h hi hl
    obtain ⟨r, i', h', e, hi', _⟩ := l1Int_ok b i h [0, 1, 2, 3, 5, 8, 13, 20, 32, 33, 64] hb hi (by simp)
    obtain ⟨r2, i2, h2, e2, hi2, hr2⟩ := ih (l ++ [r]) i' h' hi' (by simp; omega)
    refine ⟨r2, i2, h2, ev_succ ?_, hi2, by simp at hr2; omega⟩
    simp only [spec_l5Draw.l0, if_pos (show (((n + 1 : Nat) : Int) > 0) by omega), e, Option.bind_some, if_pos (show l.length < 17592186044416 by omega)]
    rwa [show wrap64 (((n + 1 : Nat) : Int) - 1) = (n : Int) by unfold wrap64; omega]
theorem l5Draw_ok (b : List Int) (i h : Int) (hb : b.length < 1099511627776) (hi : 0 ≤ i) : ∃ r i' h', Ev (fun k => spec_l5Draw.f k b i h) (r, i', h') ∧ 0 ≤ i' ∧ r.length ≤ 8 := by
  obtain ⟨r, i', h', e, hi', h0, h1⟩ := l1Below_ok b i h 9 hb hi
  obtain ⟨n, rfl⟩ := Int.eq_ofNat_of_zero_le h0
  obtain ⟨r2, i2, h2, e2, hi2, hr2⟩ := l5Draw_l0 b hb n [] i' h' hi' (by simp; omega)
  refine ⟨r2, i2, h2, ?_, hi2, by simp at hr2; omega⟩
  simp only [spec_l5Draw.f, e, Option.bind_some]
  exact e2
theorem l5Any_ok (b : List Int) (i h : Int) (hb : b.length < 1099511627776) (hi : 0 ≤ i) : ∃ r i' h', Ev (fun k => spec_l5Any.f k b i h) (r, i', h') ∧ 0 ≤ i' ∧ r.length ≤ 11 := by
  obtain ⟨r, i1, h1, e, hi1, hr⟩ := l5Draw_ok b i h hb hi
  obtain ⟨c, i2, h2, e2, hi2, _, _⟩ := l1Below_ok b i1 h1 12 hb hi1
  by_cases c0 : c = 0
  · obtain ⟨x, i3, h3, e3, hi3⟩ := l1Odd_ok b i2 h2 hb hi2
    refine ⟨r ++ [x], i3, h3, ?_, hi3, by simp; omega⟩
    unfold spec_l5Any.f
    refine Ev.bind e ?_
    simp only [e2, e3, Option.bind_some, if_pos c0, if_pos (show r.length < 17592186044416 by omega)]
    exact Ev.now _
  · by_cases c1 : c = 1
    · refine ⟨r ++ [1, 2, 3], i2, h2, ?_, hi2, by simp; omega⟩
      unfold spec_l5Any.f
      refine Ev.bind e ?_
      simp only [e2, Option.bind_some, if_neg c0, if_pos c1, if_pos (show r.length + [(1 : Int), 2, 3].length < 17592186044416 by simp; omega)]
      exact Ev.now _
    · refine ⟨r, i2, h2, ?_, hi2, by omega⟩
      unfold spec_l5Any.f
      refine Ev.bind e ?_
      simp only [e2, Option.bind_some, if_neg c0, if_neg c1]
      exact Ev.now _
theorem DrawIsFair_ok (b : List Int) (hb : b.length < 1099511627776) : ∃ n l s, Ev (fun k => spec_DrawIsFair.f k b) (n, l, s) ∧ l.length ≤ 11 ∧ s.length ≤ 12 := by
  obtain ⟨h0, e0⟩ := l1New_ev b hb
  obtain ⟨n, i1, h1, e1, hi1⟩ := l5SupplyDraw_ok b 0 h0 hb (by omega)
  obtain ⟨l, i2, h2, e2, hi2, hl⟩ := l5Any_ok b i1 h1 hb hi1
  obtain ⟨c, i3, h3, e3, hi3⟩ := l1Once_ok b i2 h2 3 hb hi2
  have j2 : ∀ (s : List Int) (i h : Int), 0 ≤ i → s.length ≤ 11 → ∃ s', Ev (fun k => spec_DrawIsFair.j2 k n l s b i h) (n, l, s') ∧ s'.length ≤ 12 := by
    intro s i h hi hs
    obtain ⟨c, i3, h3, e3, hi3⟩ := l1Once_ok b i h 9 hb hi
    obtain ⟨x, i4, h4, e4, hi4⟩ := l1Odd_ok b i3 h3 hb hi3
    cases c
    · refine ⟨s, ev_succ ?_, by omega⟩
      simp only [spec_DrawIsFair.j2, e3, Option.bind_some, Bool.false_eq_true, if_false]
      exact Ev.now _
    · refine ⟨s ++ [x], ev_succ ?_, by simp; omega⟩
      simp only [spec_DrawIsFair.j2, e3, e4, Option.bind_some, if_true, if_pos (show s.length < 17592186044416 by omega)]
      exact Ev.now _
  have j1 : ∀ (s : List Int) (c : Bool) (i h : Int), 0 ≤ i → s.length ≤ 11 → (c = true → 1 < s.length) → ∃ s', Ev (fun k => spec_DrawIsFair.j1 k n l s c b i h) (n, l, s') ∧ s'.length ≤ 12 := by
    intro s c i h hi hs hc
    cases c
    · obtain ⟨s', e, hs'⟩ := j2 s i h hi hs
      refine ⟨s', ev_succ ?_, hs'⟩
      simp only [spec_DrawIsFair.j1, Bool.false_eq_true, if_false]
      exact e
    · have := hc rfl
      obtain ⟨p, i3, h3, e3, hi3, hp0, hp1⟩ := l1Below_ok b i h (s.length : Int) hb hi
      obtain ⟨q, i4, h4, e4, hi4, hq0, hq1⟩ := l1Below_ok b i3 h3 (s.length : Int) hb hi3
      obtain ⟨s', e, hs'⟩ := j2 ((s.set p.toNat (wrap64 ((rd s p) + 1))).set q.toNat (wrap64 ((rd (s.set p.toNat (wrap64 ((rd s p) + 1))) q) - 1))) i4 h4 hi4 (by simp; omega)
      refine ⟨s', ev_succ ?_, hs'⟩
      simp only [spec_DrawIsFair.j1, e3, e4, Option.bind_some, if_true, if_pos hp0, if_pos hq0, if_pos (show p < (s.length : Int) by omega), if_pos (show q < (s.length : Int) by omega)]
      exact e
  have j0 : ∀ (s : List Int) (i h : Int), 0 ≤ i → s.length ≤ 11 → ∃ s', Ev (fun k => spec_DrawIsFair.j0 k n l s b i h) (n, l, s') ∧ s'.length ≤ 12 := by
    intro s i h hi hs
    by_cases h1 : (s.length : Int) > 1
    · obtain ⟨c, i3, h3, e3, hi3⟩ := l1Once_ok b i h 2 hb hi
      obtain ⟨s', e, hs'⟩ := j1 s c i3 h3 hi3 hs (fun _ => by omega)
      refine ⟨s', ev_succ ?_, hs'⟩
      simp only [spec_DrawIsFair.j0, if_pos h1, e3, Option.bind_some]
      exact e
    · obtain ⟨s', e, hs'⟩ := j1 s false i h hi hs (fun h => by cases h)
      refine ⟨s', ev_succ ?_, hs'⟩
      simp only [spec_DrawIsFair.j0, if_neg h1]
      exact e
  have hl' : l.length < 1099511627776 := by omega
  cases c
  · obtain ⟨s', e, hs'⟩ := j0 (pShare n l) i3 h3 hi3 (Nat.le_trans (pShare_length n l) hl)
    refine ⟨n, l, s', ?_, hl, hs'⟩
    unfold spec_DrawIsFair.f
    refine Ev.bind e0 ?_
    simp only [e1, Option.bind_some]
    refine Ev.bind e2 ?_
    refine Ev.bind (spec_ShareOut_ev n l hl') ?_
    simp only [e3, Option.bind_some, Bool.false_eq_true, if_false]
    exact e
  · obtain ⟨s', e, hs'⟩ := j0 (pInTurn n l) i3 h3 hi3 (Nat.le_trans (pInTurn_length n l) hl)
    refine ⟨n, l, s', ?_, hl, hs'⟩
    unfold spec_DrawIsFair.f
    refine Ev.bind e0 ?_
    simp only [e1, Option.bind_some]
    refine Ev.bind e2 ?_
    refine Ev.bind (spec_ShareOut_ev n l hl') ?_
    simp only [e3, Option.bind_some, if_true]
    refine Ev.bind (spec_ShareInTurn_ev n l hl') ?_
    exact e
theorem wsum_aux : ∀ (l : List Int) (s : Int), (∀ x ∈ l, 0 ≤ x ∧ x ≤ 65) → l.length ≤ 100 → 0 ≤ s → s + 65 * (l.length : Int) ≤ 10000 → l.foldl (fun s x => wrap64 (s + x)) s = s + l.sum
  | [], s, _, _, _, _ => by simp
  | a :: t, s, h, hl, h0, h1 => by
    have ha := h a (by simp)
    simp only [List.length_cons] at hl h1
    rw [List.foldl_cons, show wrap64 (s + a) = s + a by unfold wrap64; omega, wsum_aux t (s + a) (fun x hx => h x (by simp [hx])) (by omega) (by omega) (by omega), List.sum_cons]
    omega
theorem wsum_eq {l : List Int} (h : ∀ x ∈ l, 0 ≤ x ∧ x ≤ 65) (hl : l.length ≤ 100) : wsum l = l.sum := by
  have := wsum_aux l 0 h hl (by omega) (by omega)
  unfold wsum
  omega
theorem sum_range : ∀ (l : List Int), (∀ x ∈ l, 0 ≤ x ∧ x ≤ 65) → 0 ≤ l.sum ∧ l.sum ≤ 65 * (l.length : Int)
  | [], _ => by simp
  | a :: t, h => by
    have ha := h a (by simp)
    have := sum_range t (fun x hx => h x (by simp [hx]))
    simp only [List.sum_cons, List.length_cons]
    omega
/-- Each one is at most the other one's. -/
def le2 : List Int → List Int → Prop
  | a :: l, b :: m => a ≤ b ∧ le2 l m
  | [], [] => True
  | _, _ => False
theorem le2_refl : ∀ l, le2 l l
  | [] => trivial
  | a :: l => ⟨Int.le_refl a, le2_refl l⟩
theorem le2_trans : ∀ {a b c : List Int}, le2 a b → le2 b c → le2 a c
  | [], [], [], _, _ => trivial
  | x :: a, y :: b, z :: c, h, k => ⟨Int.le_trans h.1 k.1, le2_trans h.2 k.2⟩
  | [], [], _ :: _, _, k => k.elim
  | [], _ :: _, _, h, _ => h.elim
  | _ :: _, [], _, h, _ => h.elim
  | _ :: _, _ :: _, [], _, k => k.elim
theorem le2_len : ∀ {a b : List Int}, le2 a b → a.length = b.length
  | [], [], _ => rfl
  | x :: a, y :: b, h => by simp [le2_len h.2]
  | [], _ :: _, h => h.elim
  | _ :: _, [], h => h.elim
theorem le2_get : ∀ {a b : List Int}, le2 a b → ∀ i, a.getD i 0 ≤ b.getD i 0
  | [], [], _, i => by simp
  | x :: a, y :: b, h, 0 => by simpa using h.1
  | x :: a, y :: b, h, i + 1 => by simpa using le2_get h.2 i
  | [], _ :: _, h, _ => h.elim
  | _ :: _, [], h, _ => h.elim
theorem le2_sum : ∀ {a b : List Int}, le2 a b → a.sum ≤ b.sum
  | [], [], _ => by simp
  | x :: a, y :: b, h => by
    have := le2_sum h.2
    have := h.1
    simp only [List.sum_cons]; omega
  | [], _ :: _, h => h.elim
  | _ :: _, [], h => h.elim
theorem le2_anti : ∀ {a b : List Int}, le2 a b → le2 b a → a = b
  | [], [], _, _ => rfl
  | x :: a, y :: b, h, k => by rw [Int.le_antisymm h.1 k.1, le2_anti h.2 k.2]
  | [], _ :: _, h, _ => h.elim
  | _ :: _, [], h, _ => h.elim
theorem le2_mem : ∀ {a b : List Int} {lo hi : Int}, le2 a b → (∀ x ∈ b, x ≤ hi) → ∀ x ∈ a, x ≤ hi
  | [], _, _, _, _, _ => fun _ hx => by simp at hx
  | x :: a, y :: b, lo, hi, h, hb => by
    intro z hz
    rcases List.mem_cons.1 hz with rfl | hz
    · exact Int.le_trans h.1 (hb y (by simp))
    · exact le2_mem (lo := lo) h.2 (fun x hx => hb x (by simp [hx])) z hz
  | _ :: _, [], _, _, h, _ => h.elim
theorem le2_mem' : ∀ {a b : List Int} {lo : Int}, le2 a b → (∀ x ∈ a, lo ≤ x) → ∀ x ∈ b, lo ≤ x
  | _, [], _, _, _ => fun _ hx => by simp at hx
  | x :: a, y :: b, lo, h, hb => by
    intro z hz
    rcases List.mem_cons.1 hz with rfl | hz
    · exact Int.le_trans (hb x (by simp)) h.1
    · exact le2_mem' (lo := lo) h.2 (fun x hx => hb x (by simp [hx])) z hz
  | [], _ :: _, _, h, _ => h.elim
theorem pCut_mono {v v' : Int} (h : v ≤ v') : ∀ l, le2 (pCut l v) (pCut l v')
  | [] => trivial
  | x :: l => ⟨show min x v ≤ min x v' by omega, pCut_mono h l⟩
theorem pCut_le (v : Int) : ∀ l, le2 (pCut l v) l
  | [] => trivial
  | x :: l => ⟨show min x v ≤ x by omega, pCut_le v l⟩
theorem pCut_all {v : Int} : ∀ {l : List Int}, (∀ x ∈ l, x ≤ v) → pCut l v = l
  | [], _ => rfl
  | x :: l, h => by
    have h1 := h x (by simp)
    have h2 := pCut_all (l := l) (fun x hx => h x (by simp [hx]))
    unfold pCut at *
    rw [List.map_cons, h2]
    congr 1
    omega
/-- How many are beyond. -/
def beyond (v : Int) : List Int → Int
  | [] => 0
  | x :: l => (if x > v then 1 else 0) + beyond v l
theorem beyond_range (v : Int) : ∀ l, 0 ≤ beyond v l ∧ beyond v l ≤ l.length
  | [] => by simp [beyond]
  | x :: l => by
    have := beyond_range v l
    simp only [beyond, List.length_cons]
    split <;> omega
theorem pCut_succ (v : Int) : ∀ l, (pCut l (v + 1)).sum = (pCut l v).sum + beyond v l
  | [] => by simp [pCut, beyond]
  | x :: l => by
    have := pCut_succ v l
    simp only [pCut, List.map_cons, List.sum_cons, beyond] at *
    split <;> omega
/-- What ShareOut's last round does. -/
theorem shLoop_facts (v : Int) (hv : 0 ≤ v) (hv2 : v ≤ 64) : ∀ (l : List Int) (rest : Int), 0 ≤ rest → rest ≤ 100000 →
    le2 (pCut l v) (shLoop v rest l (pCut l v)) ∧ le2 (shLoop v rest l (pCut l v)) (pCut l (v + 1)) ∧ (shLoop v rest l (pCut l v)).sum = (pCut l v).sum + min rest (beyond v l)
  | [], rest, h0, _ => by simp [pCut, shLoop, beyond, le2]; omega
  | x :: l, rest, h0, h1 => by
    have e : pCut (x :: l) v = min x v :: pCut l v := rfl
    have e1 : pCut (x :: l) (v + 1) = min x (v + 1) :: pCut l (v + 1) := rfl
    have hb := beyond_range v l
    rw [e, e1, shLoop]
    simp only [beyond]
    by_cases hx : x > v
    · simp only [if_pos hx]
      by_cases hr : rest > 0
      · obtain ⟨f1, f2, f3⟩ := shLoop_facts v hv hv2 l (rest - 1) (by omega) (by omega)
        rw [if_pos hr, show wrap64 (rest - 1) = rest - 1 by unfold wrap64; omega, show wrap64 (min x v + 1) = v + 1 by unfold wrap64; omega]
        refine ⟨⟨by omega, f1⟩, ⟨by omega, f2⟩, ?_⟩
        simp only [List.sum_cons, f3]; omega
      · obtain ⟨f1, f2, f3⟩ := shLoop_facts v hv hv2 l rest h0 h1
        rw [if_neg hr]
        refine ⟨⟨by omega, f1⟩, ⟨by omega, f2⟩, ?_⟩
        simp only [List.sum_cons, f3]; omega
    · obtain ⟨f1, f2, f3⟩ := shLoop_facts v hv hv2 l rest h0 h1
      simp only [if_neg hx]
      refine ⟨⟨by omega, f1⟩, ⟨by omega, f2⟩, ?_⟩
      simp only [List.sum_cons, f3]; omega
theorem shLoop_mono (v : Int) (hv : 0 ≤ v) (hv2 : v ≤ 64) : ∀ (l : List Int) (rest rest' : Int), 0 ≤ rest → rest ≤ rest' → rest' ≤ 100000 →
    le2 (shLoop v rest l (pCut l v)) (shLoop v rest' l (pCut l v))
  | [], _, _, _, _, _ => by simp [pCut, shLoop, le2]
  | x :: l, rest, rest', h0, h1, h2 => by
    have e : pCut (x :: l) v = min x v :: pCut l v := rfl
    rw [e, shLoop, shLoop]
    by_cases hx : x > v
    · simp only [if_pos hx]
      by_cases hr : rest > 0
      · rw [if_pos hr, if_pos (by omega), show wrap64 (rest - 1) = rest - 1 by unfold wrap64; omega, show wrap64 (rest' - 1) = rest' - 1 by unfold wrap64; omega]
        exact ⟨by omega, shLoop_mono v hv hv2 l _ _ (by omega) (by omega) (by omega)⟩
      · rw [if_neg hr]
        by_cases hr' : rest' > 0
        · rw [if_pos hr', show wrap64 (rest' - 1) = rest' - 1 by unfold wrap64; omega, show wrap64 (min x v + 1) = v + 1 by unfold wrap64; omega]
          exact ⟨by omega, shLoop_mono v hv hv2 l _ _ (by omega) (by omega) (by omega)⟩
        · rw [if_neg hr']
          exact ⟨by omega, shLoop_mono v hv hv2 l _ _ (by omega) (by omega) (by omega)⟩
    · simp only [if_neg hx]
      exact ⟨by omega, shLoop_mono v hv hv2 l _ _ (by omega) (by omega) (by omega)⟩
theorem lev_fits (S : Int → Int) (n : Int) (h : S 0 ≤ n) : ∀ v : Nat, S (lev S n v) ≤ n
  | 0 => h
  | v + 1 => by
    unfold lev
    split
    · assumption
    · exact lev_fits S n h v
theorem lev_most (S : Int → Int) (n : Int) : ∀ (v : Nat) (x : Int), lev S n v < x → x ≤ v → S x > n
  | 0, x, h, h' => by simp [lev] at h h'; omega
  | v + 1, x, h, h' => by
    unfold lev at h
    split at h
    · omega
    · rename_i hn
      by_cases hx : x = ((v + 1 : Nat) : Int)
      · subst hx; omega
      · exact lev_most S n v x h (by omega)
/-- All that the laws on ShareOut lean on. -/
theorem share_facts {n : Int} {l : List Int} (hd : pDem l = true) (hs : pSup n = true) :
    ∃ v rest, pLevel n l = v ∧ 0 ≤ v ∧ v ≤ 64 ∧ 0 ≤ rest ∧ rest ≤ 512 ∧ rest = n - (pCut l v).sum ∧ pShare n l = shLoop v rest l (pCut l v) ∧ (∀ x, v < x → x ≤ 64 → (pCut l x).sum > n) := by
  have hm := pDem_mem hd
  have hl := pDem_len hd
  have hn : 0 ≤ n ∧ n ≤ 512 := by simpa [pSup] using hs
  have hc : ∀ v, 0 ≤ v → ∀ x ∈ pCut l v, 0 ≤ x ∧ x ≤ 65 := by
    intro v hv x hx
    simp only [pCut, List.mem_map] at hx
    obtain ⟨y, hy, rfl⟩ := hx
    have := hm y hy
    omega
  have hS : ∀ v, 0 ≤ v → cutSum l v = (pCut l v).sum := fun v hv => wsum_eq (hc v hv) (by rw [pCut_length]; omega)
  have hp : pLevel n l = lev (cutSum l) n 64 := by rw [pLevel, if_pos hd, if_pos hs]
  have hr := lev_range (cutSum l) n 64
  have h0 : cutSum l 0 ≤ n := by rw [cutSum_zero hm]; exact hn.1
  have hf := lev_fits (cutSum l) n h0 64
  have hq := lev_most (cutSum l) n 64
  rw [← hp] at hr hf hq
  refine ⟨pLevel n l, n - (pCut l (pLevel n l)).sum, rfl, hr.1, by omega, ?_, ?_, rfl, ?_, ?_⟩
  · rw [hS _ hr.1] at hf; omega
  · have := sum_range _ (hc _ hr.1); omega
  · have := sum_range _ (hc _ hr.1)
    have h8 : (pCut l (pLevel n l)).length ≤ 8 := by rw [pCut_length]; exact hl
    rw [pShare, if_pos hd, if_pos hs, hS _ hr.1, show wrap64 (n - (pCut l (pLevel n l)).sum) = n - (pCut l (pLevel n l)).sum by unfold wrap64; omega]
  · intro x hx h64
    have := hq x hx (by omega)
    rwa [hS x (by omega)] at this
theorem share_facts2 {n : Int} {l : List Int} (hd : pDem l = true) (hs : pSup n = true) :
    le2 (pCut l (pLevel n l)) (pShare n l) ∧ le2 (pShare n l) (pCut l (pLevel n l + 1)) ∧ (pShare n l).sum = min n l.sum ∧ 0 ≤ pLevel n l ∧ pLevel n l ≤ 64 ∧ (pLevel n l = 64 ∨ n < l.sum) := by
  obtain ⟨v, rest, h1, h2, h3, h4, h5, h6, h7, h8⟩ := share_facts hd hs
  obtain ⟨f1, f2, f3⟩ := shLoop_facts v h2 h3 l rest h4 (by omega)
  rw [h1, h7]
  have hm := pDem_mem hd
  refine ⟨f1, f2, ?_, h2, h3, ?_⟩
  · rw [f3]
    by_cases hv : v = 64
    · have hall : pCut l v = l := pCut_all (fun x hx => by have := hm x hx; omega)
      have hb : beyond v l = 0 := by
        have : ∀ l : List Int, (∀ x ∈ l, x ≤ v) → beyond v l = 0 := by
          intro l
          induction l with
          | nil => intro _; rfl
          | cons a t ih =>
            intro h
            have := h a (by simp)
            simp only [beyond, if_neg (show ¬ a > v by omega), ih (fun x hx => h x (by simp [hx]))]
            omega
        exact this l (fun x hx => by have := hm x hx; omega)
      rw [hb]; rw [hall] at h6 ⊢; omega
    · have h9 := h8 (v + 1) (by omega) (by omega)
      rw [pCut_succ] at h9
      have h10 := le2_sum (pCut_le (v + 1) l)
      rw [pCut_succ] at h10
      omega
  · by_cases hv : v = 64
    · exact .inl hv
    · right
      have h9 := h8 (v + 1) (by omega) (by omega)
      have h10 := le2_sum (pCut_le (v + 1) l)
      omega
theorem share_le {n : Int} {l : List Int} (hd : pDem l = true) (hs : pSup n = true) : le2 (pShare n l) l := by
  obtain ⟨f1, f2, _⟩ := share_facts2 hd hs
  exact le2_trans f2 (pCut_le _ l)
theorem pSup_of {n : Int} (h0 : 0 ≤ n) (h1 : n ≤ 512) : pSup n = true := by simp [pSup, h0, h1]
theorem share_more {n : Int} {l : List Int} (hd : pDem l = true) (h0 : 0 ≤ n) (h1 : n < 512) : le2 (pShare n l) (pShare (n + 1) l) := by
  have hs := pSup_of h0 (by omega)
  have hs' := pSup_of (n := n + 1) (by omega) (by omega)
  obtain ⟨v, rest, a1, a2, a3, a4, a5, a6, a7, a8⟩ := share_facts hd hs
  obtain ⟨v', rest', b1, b2, b3, b4, b5, b6, b7, b8⟩ := share_facts hd hs'
  obtain ⟨f1, f2, f3⟩ := shLoop_facts v a2 a3 l rest a4 (by omega)
  obtain ⟨g1, g2, g3⟩ := shLoop_facts v' b2 b3 l rest' b4 (by omega)
  rw [a7, b7]
  by_cases hv : v' < v
  · have := b8 v hv a3
    omega
  · by_cases he : v' = v
    · subst he
      exact shLoop_mono v' b2 b3 l rest rest' a4 (by omega) (by omega)
    · exact le2_trans f2 (le2_trans (pCut_mono (by omega) l) g1)
theorem share_all {n : Int} {l : List Int} (hd : pDem l = true) (hs : pSup n = true) (h : l.sum ≤ n) : pShare n l = l := by
  obtain ⟨f1, f2, f3, f4, f5, f6⟩ := share_facts2 hd hs
  have hv : pLevel n l = 64 := by omega
  rw [hv] at f1
  rw [pCut_all (fun x hx => (pDem_mem hd x hx).2)] at f1
  exact le2_anti (share_le hd hs) f1
theorem total_eq {l : List Int} (hd : pDem l = true) : wsum l = l.sum := wsum_eq (fun x hx => by have := pDem_mem hd x hx; omega) (by have := pDem_len hd; omega)
theorem laws_total_l0 (l : List Int) (hl : l.length < 1099511627776) : ∀ (suf pre : List Int) (s : Int), l = pre ++ suf →
    Ev (fun k => laws_total.l0 k l s (pre.length : Int)) (suf.foldl (fun s x => wrap64 (s + x)) s) := by
  intro suf
  induction suf with
  | nil =>
    intro pre s h
    refine ev_succ ?_
    simp only [laws_total.l0, if_neg (ixn h)]
    exact Ev.now _
  | cons a t ih =>
    intro pre s h
    obtain ⟨h1, h2, h3, h4⟩ := ix h (by omega)
    refine ev_succ ?_
    simp only [laws_total.l0, if_pos h1, if_pos (nn _), Int.toNat_natCast, rd, h2, h3]
    exact ih _ _ h4
theorem laws_total_ev (l : List Int) (hl : l.length < 1099511627776) : Ev (fun k => laws_total.f k l) (wsum l) := laws_total_l0 l hl l [] 0 rfl
theorem share_mem {n : Int} {l : List Int} (hd : pDem l = true) (hs : pSup n = true) : ∀ x ∈ pShare n l, 0 ≤ x ∧ x ≤ 65 := by
  have g := share_facts2 hd hs
  have hm := pDem_mem hd
  intro x hx
  refine ⟨?_, le2_mem (lo := 0) (share_le hd hs) (fun y hy => by have := hm y hy; omega) x hx⟩
  refine le2_mem' g.1 (fun y hy => ?_) x hx
  simp only [pCut, List.mem_map] at hy
  obtain ⟨z, hz, rfl⟩ := hy
  have := hm z hz
  omega
theorem shOk_of' : ∀ {l s : List Int}, le2 s l → (∀ x ∈ s, 0 ≤ x) → shOk l s = true
  | [], [], _, _ => rfl
  | d :: l, n :: s, h, h' => by
    have h1 := h.1
    have h2 := h' n (by simp)
    simp only [shOk, Bool.and_eq_true, decide_eq_true_eq]
    exact ⟨⟨h2, h1⟩, shOk_of' h.2 (fun x hx => h' x (by simp [hx]))⟩
  | [], _ :: _, h, _ => h.elim
  | _ :: _, [], h, _ => h.elim
theorem share_shares {n : Int} {l : List Int} (hd : pDem l = true) (hs : pSup n = true) : pShares l (pShare n l) = true := by
  rw [pShares, hd, shOk_of' (share_le hd hs) (fun x hx => (share_mem hd hs x hx).1)]; rfl
theorem fairOk_of (v : Int) (s0 : List Int) (h0 : ∀ x ∈ s0, x ≤ v + 1) (hv : 0 ≤ v) : ∀ (l s : List Int), le2 (pCut l v) s → (∀ x ∈ s, 0 ≤ x ∧ x ≤ 65) → fairOk s0 l s = true
  | [], [], _, _ => rfl
  | d :: l, n :: s, h, h' => by
    have h1 : min d v ≤ n := h.1
    have h2 := h' n (by simp)
    simp only [fairOk, Bool.and_eq_true]
    refine ⟨?_, fairOk_of v s0 h0 hv l s h.2 (fun x hx => h' x (by simp [hx]))⟩
    rw [List.all_eq_true]
    intro o ho
    have := h0 o ho
    by_cases hn : n < d
    · have : ¬ (o > wrap64 (n + 1)) := by unfold wrap64; omega
      simp [this]
    · simp [hn]
  | [], _ :: _, h, _ => h.elim
  | _ :: _, [], h, _ => h.elim
theorem share_fair {n : Int} {l : List Int} (hd : pDem l = true) (hs : pSup n = true) : pFair n l (pShare n l) = true := by
  have g := share_facts2 hd hs
  have hl := pDem_len hd
  have gl := le2_len (share_le hd hs)
  rw [pFair, hs, share_shares hd hs, wsum_eq (share_mem hd hs) (by omega), total_eq hd, g.2.2.1]
  rw [fairOk_of (pLevel n l) (pShare n l) ?_ g.2.2.2.1 l (pShare n l) g.1 (share_mem hd hs)]
  · simp
  · refine le2_mem (lo := 0) g.2.1 (fun x hx => ?_)
    simp only [pCut, List.mem_map] at hx
    obtain ⟨z, hz, rfl⟩ := hx
    omega
theorem shOk_le : ∀ {l s : List Int}, shOk l s = true → le2 s l ∧ ∀ x ∈ s, 0 ≤ x
  | [], [], _ => ⟨trivial, fun _ hx => by simp at hx⟩
  | d :: l, n :: s, h => by
    simp only [shOk, Bool.and_eq_true, decide_eq_true_eq] at h
    have := shOk_le h.2
    refine ⟨⟨h.1.2, this.1⟩, fun x hx => ?_⟩
    rcases List.mem_cons.1 hx with rfl | hx
    · exact h.1.1
    · exact this.2 x hx
theorem fair_get {s0 : List Int} : ∀ {l s : List Int}, fairOk s0 l s = true → ∀ i, i < s.length → i < l.length → s.getD i 0 < l.getD i 0 → ∀ j, j < s0.length → s0.getD j 0 ≤ wrap64 (s.getD i 0 + 1)
  | d :: l, n :: s, h, 0, _, _, hi, j, hj => by
    simp only [fairOk, Bool.and_eq_true, List.all_eq_true] at h
    have hm : s0.getD j 0 ∈ s0 := by
      simp only [List.getD_eq_getElem?_getD, List.getElem?_eq_getElem hj, Option.getD_some]
      exact List.getElem_mem _
    have := h.1 _ hm
    simp only [List.getD_cons_zero] at hi ⊢
    simp only [Bool.not_eq_true', Bool.and_eq_false_iff, decide_eq_false_iff_not] at this
    omega
  | d :: l, n :: s, h, i + 1, h1, h2, hi, j, hj => by
    simp only [fairOk, Bool.and_eq_true] at h
    simp only [List.getD_cons_succ, List.length_cons] at hi h1 h2 ⊢
    exact fair_get h.2 i (by omega) (by omega) hi j hj
  | [], _, _, _, _, h2, _, _, _ => by simp at h2
  | _ :: _, [], _, _, h1, _, _, _, _ => by simp at h1
theorem sum_lt : ∀ {a b : List Int}, a.length = b.length → (∀ i, a.getD i 0 ≤ b.getD i 0) → ∀ i, a.getD i 0 < b.getD i 0 → a.sum < b.sum
  | [], [], _, _, i, h => by simp at h
  | x :: a, y :: b, hl, h, i, hi => by
    have h0 := h 0
    simp only [List.getD_cons_zero] at h0
    have ht : ∀ i, a.getD i 0 ≤ b.getD i 0 := fun i => by have := h (i + 1); simpa only [List.getD_cons_succ] using this
    have hle : le2 a b := by
      have : ∀ (a b : List Int), a.length = b.length → (∀ i, a.getD i 0 ≤ b.getD i 0) → le2 a b := by
        intro a
        induction a with
        | nil => intro b hb _; cases b with
          | nil => trivial
          | cons y b => simp at hb
        | cons x a ih => intro b hb h; cases b with
          | nil => simp at hb
          | cons y b =>
            refine ⟨by have := h 0; simpa using this, ih b (by simpa using hb) (fun i => by have := h (i + 1); simpa only [List.getD_cons_succ] using this)⟩
      exact this a b (by simpa using hl) ht
    have hs := le2_sum hle
    simp only [List.sum_cons]
    cases i with
    | zero => simp only [List.getD_cons_zero] at hi; omega
    | succ i =>
      simp only [List.getD_cons_succ] at hi
      have := sum_lt (by simpa using hl) ht i hi
      omega
  | [], _ :: _, hl, _, _, _ => by simp at hl
  | _ :: _, [], hl, _, _, _ => by simp at hl
theorem fair_near {l a b : List Int} (ha : le2 a l) (hb : le2 b l) (ma : ∀ i, 0 ≤ a.getD i 0 ∧ a.getD i 0 ≤ 65) (mb : ∀ i, 0 ≤ b.getD i 0 ∧ b.getD i 0 ≤ 65) (hs : a.sum = b.sum) (fa : fairOk a l a = true) (fb : fairOk b l b = true) (i : Nat) : a.getD i 0 ≤ b.getD i 0 + 1 := by
  have la := le2_len ha
  have lb := le2_len hb
  refine Decidable.byContradiction fun hn => ?_
  have hi : i < a.length := by
    refine Decidable.byContradiction fun hi => ?_
    have : a.getD i 0 = 0 := by simp [List.getD_eq_getElem?_getD, List.getElem?_eq_none (show a.length ≤ i by omega)]
    have := mb i
    omega
  have h1 := le2_get ha i
  have key : ∀ j, b.getD j 0 ≤ a.getD j 0 := by
    intro j
    by_cases hj : j < a.length
    · have h2 := fair_get fb i (by omega) (by omega) (by omega) j (by omega)
      have h3 := le2_get hb j
      have := mb i
      rw [show wrap64 (b.getD i 0 + 1) = b.getD i 0 + 1 by unfold wrap64; omega] at h2
      by_cases h4 : a.getD j 0 < l.getD j 0
      · have h5 := fair_get fa j (by omega) (by omega) h4 i hi
        have := ma j
        rw [show wrap64 (a.getD j 0 + 1) = a.getD j 0 + 1 by unfold wrap64; omega] at h5
        omega
      · omega
    · have e1 : a.getD j 0 = 0 := by simp [List.getD_eq_getElem?_getD, List.getElem?_eq_none (show a.length ≤ j by omega)]
      have e2 : b.getD j 0 = 0 := by simp [List.getD_eq_getElem?_getD, List.getElem?_eq_none (show b.length ≤ j by omega)]
      omega
  have := sum_lt (by omega) key i (by omega)
  omega
theorem mem_get {a : List Int} (h : ∀ x ∈ a, 0 ≤ x ∧ x ≤ 65) (i : Nat) : 0 ≤ a.getD i 0 ∧ a.getD i 0 ≤ 65 := by
  by_cases hi : i < a.length
  · refine h _ ?_
    simp only [List.getD_eq_getElem?_getD, List.getElem?_eq_getElem hi, Option.getD_some]
    exact List.getElem_mem _
  · simp [List.getD_eq_getElem?_getD, List.getElem?_eq_none (show a.length ≤ i by omega)]
theorem FairAlike_l0 (s x : List Int) (hl : s.length < 1099511627776) (hx : x.length = s.length) (h1 : ∀ i, s.getD i 0 ≤ x.getD i 0 + 1) (h2 : ∀ i, x.getD i 0 ≤ s.getD i 0 + 1) (ms : ∀ i, 0 ≤ s.getD i 0 ∧ s.getD i 0 ≤ 65) (mx : ∀ i, 0 ≤ x.getD i 0 ∧ x.getD i 0 ≤ 65) (ht : wsum s = wsum x) : ∀ (d i : Nat), i + d = s.length →
    Ev (fun k => laws_FnFairAlike.l0 k s x (i : Int)) true := by
  intro d
  induction d with
  | zero =>
    intro i h
    refine ev_succ ?_
    simp only [laws_FnFairAlike.l0, if_neg (show ¬ ((i : Int) < (s.length : Int)) by omega)]
    refine Ev.bind (laws_total_ev s hl) ?_
    refine Ev.bind (laws_total_ev x (by omega)) ?_
    rw [ht, beq_self_eq_true]; exact Ev.now _
  | succ d ih =>
    intro i h
    refine ev_succ ?_
    have a1 := h1 i
    have a2 := h2 i
    have a3 := ms i
    have a4 := mx i
    simp only [laws_FnFairAlike.l0, if_pos (show ((i : Int) < (s.length : Int)) by omega), if_pos (nn _), if_pos (show ((i : Int) < (x.length : Int)) by omega), rd, Int.toNat_natCast]
    refine ev_ite (fun c1 => absurd c1 (by unfold wrap64; omega)) (fun _ => ?_)
    refine ev_ite (fun c1 => absurd c1 (by unfold wrap64; omega)) (fun _ => ?_)
    rw [show wrap64 ((i : Int) + 1) = ((i + 1 : Nat) : Int) by unfold wrap64; omega]
    exact ih (i + 1) (by omega)
theorem FnFairAlike : laws_FnFairAlike.Pure := by
  intro c _ _ _
  refine Ev.rounds ?_
  simp only [laws_FnFairAlike.f, laws_big_eq, Option.bind_some]
  by_cases hc : (c.length : Int) > 4096
  · simp only [decide_eq_true hc, if_true]; exact Ev.now _
  · simp only [decide_eq_false hc, Bool.false_eq_true, if_false]
    obtain ⟨n, l, s, e, hl, hsl⟩ := DrawIsFair_ok c (by omega)
    have hl' : l.length < 1099511627776 := by omega
    have hs' : s.length < 1099511627776 := by omega
    refine Ev.bind e ?_
    refine Ev.bind (impl_ShareOut_ev n l hl') ?_
    refine Ev.bind (impl_IsFair_ev n l s hl' hs') ?_
    refine Ev.bind (spec_IsFair_ev n l s hl' hs') ?_
    simp only [bne_self_eq_false, Bool.false_eq_true, if_false]
    refine Ev.bind (impl_IsFair_ev n l s hl' hs') ?_
    refine ev_ite (fun hf => ?_) (fun _ => Ev.now _)
    simp only [pFair, pShares, Bool.and_eq_true, beq_iff_eq] at hf
    obtain ⟨hn, ⟨hd, hso⟩, hw, hfo⟩ := hf
    have hl8 := pDem_len hd
    have hsh := share_fair hd hn
    simp only [pFair, pShares, Bool.and_eq_true, beq_iff_eq] at hsh
    obtain ⟨_, ⟨_, hso'⟩, hw', hfo'⟩ := hsh
    obtain ⟨g1, g2⟩ := shOk_le hso
    obtain ⟨k1, k2⟩ := shOk_le hso'
    have hm := pDem_mem hd
    have m1 : ∀ x ∈ s, 0 ≤ x ∧ x ≤ 65 := fun x hx => ⟨g2 x hx, le2_mem (lo := 0) g1 (fun y hy => by have := hm y hy; omega) x hx⟩
    have m2 : ∀ x ∈ pShare n l, 0 ≤ x ∧ x ≤ 65 := fun x hx => ⟨k2 x hx, le2_mem (lo := 0) k1 (fun y hy => by have := hm y hy; omega) x hx⟩
    have l1 := le2_len g1
    have l2 := le2_len k1
    have e1 : s.sum = (pShare n l).sum := by
      rw [← wsum_eq m1 (by omega), ← wsum_eq m2 (by omega), hw, hw']
    refine FairAlike_l0 s (pShare n l) hs' (by omega) ?_ ?_ (mem_get m1) (mem_get m2) (by rw [hw, hw']) s.length 0 (by omega)
    · exact fair_near g1 k1 (mem_get m1) (mem_get m2) e1 hfo hfo'
    · exact fair_near k1 g1 (mem_get m2) (mem_get m1) e1.symm hfo' hfo

end Go.Proofs.Ytceioaphkepdoaa.Pure
