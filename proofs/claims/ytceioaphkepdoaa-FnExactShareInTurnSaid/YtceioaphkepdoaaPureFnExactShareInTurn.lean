/- The law FnExactShareInTurn comes to true for every input: The program's ShareInTurn returns what the reference's returns, for all arguments. No condition beside the statement's own. -/
import Derived.Test.YtceioaphkepdoaaStFnExactShareInTurn
namespace Go.Proofs.Ytceioaphkepdoaa.Pure
open Go Go.RowKit Go.Proofs.Ytceioaphkepdoaa.MFnExactShareInTurn Go.Proofs.YtceioaphkepdoaaW.PrintWords Go.Proofs.YtceioaphkepdoaaW.PrintLast Go.Proofs.YtceioaphkepdoaaW.PrintMore
set_option linter.unusedVariables false

theorem ev_succ {α : Type} {g : Nat → Option α} {r : α} (h : Ev (fun k => g (k + 1)) r) : Ev g r := Ev.step (fun _ => rfl) h
theorem ev_ite {α : Type} {c : Prop} [Decidable c] {f g : Nat → Option α} {r : α} (h : c → Ev f r) (h' : ¬ c → Ev g r) : Ev (fun k => if c then f k else g k) r := by
  by_cases hc : c
  · simp only [if_pos hc]; exact h hc
  · simp only [if_neg hc]; exact h' hc
theorem ix {α : Type} {l pre t : List α} {a : α} (h : l = pre ++ a :: t) (hl : l.length < 4611686018427387904) :
    (pre.length : Int) < (l.length : Int) ∧ (∀ d, l.getD pre.length d = a) ∧ wrap64 ((pre.length : Int) + 1) = ((pre ++ [a]).length : Int) ∧ l = (pre ++ [a]) ++ t := by
  subst h
  simp only [List.length_append, List.length_cons, List.length_nil] at *
  refine ⟨by omega, fun d => by simp [List.getD], by unfold wrap64; omega, by simp⟩
theorem ixn {α : Type} {l pre : List α} (h : l = pre ++ []) : ¬ (pre.length : Int) < (l.length : Int) := by
  subst h; simp
theorem nn (n : Nat) : (0 : Int) ≤ (n : Int) := Int.natCast_nonneg n
theorem w64 {n : Int} (h0 : -9223372036854775808 ≤ n) (h1 : n < 9223372036854775808) : wrap64 n = n := by unfold wrap64; omega
theorem mn_min (a b : Int) : mn a b = min a b := by unfold mn; omega
theorem mx_max (a b : Int) : mx a b = max a b := by unfold mx; omega
theorem set_app {α : Type} (pre t : List α) (a b : α) : (pre ++ a :: t).set pre.length b = pre ++ b :: t := by simp
theorem app1 {α : Type} (pre : List α) (a : α) (t : List α) : pre ++ a :: t = (pre ++ [a]) ++ t := by simp

/-- The numbers from c on, n of them. -/
def upto : Nat → Int → List Int
  | 0, _ => []
  | n + 1, c => c :: upto n (c + 1)
theorem upto_length : ∀ n c, (upto n c).length = n
  | 0, _ => rfl
  | n + 1, c => by simp [upto, upto_length n]

theorem spec_l1In_eq (a b c : Int) : spec_l1In.f a b c = some (decide (b ≤ a) && decide (a ≤ c)) := by
  unfold spec_l1In.f; split <;> simp <;> omega
theorem impl_isWithin_eq (a b c : Int) : impl_isWithin.f a b c = some (decide (b ≤ a) && decide (a ≤ c)) := by
  unfold impl_isWithin.f; split <;> simp <;> omega
theorem spec_l1Min_eq (a b : Int) : spec_l1Min.f a b = some (min a b) := by
  unfold spec_l1Min.f; split <;> simp <;> omega

theorem laws_toIntS_l0 (l : List Int) (hl : l.length < 1099511627776) : ∀ (suf pre : List Int), l = pre ++ suf →
    Ev (fun k => laws_toIntS.l0 k l (pre ++ List.replicate suf.length 0) (pre.length : Int)) l := by
  intro suf
  induction suf with
  | nil =>
    intro pre h
    refine ev_succ ?_
    simp only [laws_toIntS.l0, if_neg (ixn h)]
    simpa [h] using Ev.now l
  | cons a t ih =>
    intro pre h
    obtain ⟨h1, h2, h3, h4⟩ := ix h (by omega)
    refine ev_succ ?_
    have h5 : (pre.length : Int) < ((pre ++ List.replicate (a :: t).length (0 : Int)).length : Int) := by simp; omega
    simp only [laws_toIntS.l0, if_pos h1, if_pos (nn _), if_pos h5, Int.toNat_natCast, rd, h2, h3]
    have := ih (pre ++ [a]) h4
    rw [List.length_cons, List.replicate_succ, set_app]
    simpa using this
theorem laws_toIntS_ev (l : List Int) (hl : l.length < 1099511627776) : Ev (fun k => laws_toIntS.f k l) l := by
  have := laws_toIntS_l0 l hl l [] rfl
  simp only [laws_toIntS.f, if_pos (nn _), Int.toNat_natCast, if_pos (show l.length ≤ 35184372088832 by omega)]
  simpa using this

theorem laws_eqIntS_l0 (x y : List Int) (hx : x.length = y.length) (hl : x.length < 1099511627776) : ∀ (d i : Nat), i + d = x.length → x.take i = y.take i →
    Ev (fun k => laws_eqIntS.l0 k x y (i : Int)) (x == y) := by
  intro d
  induction d with
  | zero =>
    intro i h e
    refine ev_succ ?_
    simp only [laws_eqIntS.l0, if_neg (show ¬ ((i : Int) < (x.length : Int)) by omega)]
    rw [List.take_of_length_le (by omega), List.take_of_length_le (by omega)] at e
    simpa [e] using Ev.now true
  | succ d ih =>
    intro i h e
    refine ev_succ ?_
    simp only [laws_eqIntS.l0, if_pos (show ((i : Int) < (x.length : Int)) by omega), if_pos (nn _), if_pos (show ((i : Int) < (y.length : Int)) by omega), rd, Int.toNat_natCast]
    have hx1 : i < x.length := by omega
    have hy1 : i < y.length := by omega
    refine ev_ite (fun hc => ?_) (fun hc => ?_)
    · rw [show wrap64 ((i : Int) + 1) = ((i + 1 : Nat) : Int) by unfold wrap64; omega]
      refine ih (i + 1) (by omega) ?_
      rw [List.take_succ_eq_append_getElem hx1, List.take_succ_eq_append_getElem hy1, e]
      simp only [List.getD_eq_getElem?_getD, List.getElem?_eq_getElem hx1, List.getElem?_eq_getElem hy1, Option.getD_some] at hc
      rw [hc]
    · have : (x == y) = false := by
        rw [beq_eq_false_iff_ne]; intro e2; subst e2; exact hc rfl
      rw [this]; exact Ev.now _
theorem laws_eqIntS_ev (x y : List Int) (hl : x.length < 1099511627776) : Ev (fun k => laws_eqIntS.f k x y) (x == y) := by
  unfold laws_eqIntS.f
  refine ev_ite (fun h => ?_) (fun h => ?_)
  · exact laws_eqIntS_l0 x y (by omega) hl x.length 0 (by omega) rfl
  · have : (x == y) = false := by
      rw [beq_eq_false_iff_ne]; intro e2; subst e2; exact h rfl
    rw [this]; exact Ev.now _
theorem laws_eqIntS_rfl (x : List Int) (hl : x.length < 1099511627776) : Ev (fun k => laws_eqIntS.f k x x) true := by
  have := laws_eqIntS_ev x x hl
  rwa [beq_self_eq_true] at this

theorem laws_markIntS_l0 : ∀ (suf pre : List Int) (c : Int), 0 ≤ c → pre.length + suf.length < 1099511627776 → c + suf.length < 4611686018427387904 →
    Ev (fun k => laws_markIntS.l0 k (pre ++ suf) c (pre.length : Int)) (c + suf.length, pre ++ upto suf.length c) := by
  intro suf
  induction suf with
  | nil =>
    intro pre c _ _ _
    refine ev_succ ?_
    simp only [laws_markIntS.l0, if_neg (ixn (pre := pre) rfl)]
    simpa [upto] using Ev.now (c, pre)
  | cons a t ih =>
    intro pre c h0 hl hm
    simp only [List.length_cons] at hl hm
    obtain ⟨h1, h2, h3, h4⟩ := ix (l := pre ++ a :: t) rfl (by simp; omega)
    refine ev_succ ?_
    simp only [laws_markIntS.l0, if_pos h1, if_pos (nn _), Int.toNat_natCast, set_app]
    rw [show wrap64 (c + 1) = c + 1 by unfold wrap64; omega, show wrap64 ((pre.length : Int) + 1) = ((pre ++ [c]).length : Int) by simp; unfold wrap64; omega, app1]
    have := ih (pre ++ [c]) (c + 1) (by omega) (by simp; omega) (by omega)
    simp only [List.length_cons, upto, List.append_assoc, List.singleton_append] at this ⊢
    rwa [show c + ((t.length + 1 : Nat) : Int) = c + 1 + t.length by omega]
theorem laws_markIntS_ev (l : List Int) (hl : l.length < 1099511627776) : Ev (fun k => laws_markIntS.f k l 1) (1 + l.length, upto l.length 1) := by
  have := laws_markIntS_l0 l [] 1 (by omega) (by simp; omega) (by omega)
  simpa [laws_markIntS.f] using this
theorem laws_heldIntS_l0 : ∀ (n : Nat) (pre : List Int) (c : Int), 0 ≤ c → pre.length + n < 1099511627776 → c + n < 4611686018427387904 →
    Ev (fun k => laws_heldIntS.l0 k (pre ++ upto n c) c (pre.length : Int)) (c + n) := by
  intro n
  induction n with
  | zero =>
    intro pre c _ _ _
    refine ev_succ ?_
    simp only [laws_heldIntS.l0, upto, List.append_nil, if_neg (show ¬ ((pre.length : Int) < (pre.length : Int)) by omega)]
    simpa using Ev.now c
  | succ n ih =>
    intro pre c h0 hl hm
    obtain ⟨h1, h2, h3, h4⟩ := ix (l := pre ++ c :: upto n (c + 1)) rfl (by simp [upto_length]; omega)
    refine ev_succ ?_
    simp only [laws_heldIntS.l0, upto, if_pos h1, if_pos (nn _), Int.toNat_natCast, rd, h2, h3, if_true]
    rw [show wrap64 (c + 1) = c + 1 by unfold wrap64; omega, app1]
    have := ih (pre ++ [c]) (c + 1) (by omega) (by simp; omega) (by omega)
    rwa [show c + ((n + 1 : Nat) : Int) = c + 1 + n by omega]
theorem laws_heldIntS_ev (n : Nat) (hl : n < 1099511627776) : Ev (fun k => laws_heldIntS.f k (upto n 1) 1) (1 + n) := by
  have := laws_heldIntS_l0 n [] 1 (by omega) (by simp; omega) (by omega)
  simpa [laws_heldIntS.f] using this

def isDem (x : Int) : Bool := decide (0 ≤ x) && decide (x ≤ 64)
/-- IsDemands -/
def pDem (l : List Int) : Bool := l.all isDem && decide ((l.length : Int) ≤ 8)
def pSup (n : Int) : Bool := decide (0 ≤ n) && decide (n ≤ 512)
def wsum (l : List Int) : Int := l.foldl (fun s x => wrap64 (s + x)) 0
def pCut (l : List Int) (level : Int) : List Int := l.map fun x => min x level
theorem pDem_len {l : List Int} (h : pDem l = true) : l.length ≤ 8 := by
  simp only [pDem, Bool.and_eq_true, decide_eq_true_eq] at h; omega
theorem pDem_mem {l : List Int} (h : pDem l = true) : ∀ x ∈ l, 0 ≤ x ∧ x ≤ 64 := by
  simp only [pDem, Bool.and_eq_true, List.all_eq_true, isDem, decide_eq_true_eq] at h
  exact h.1
theorem pCut_length (l : List Int) (v : Int) : (pCut l v).length = l.length := by simp [pCut]

theorem spec_IsDemands_l0 (l : List Int) (hl : l.length < 1099511627776) : ∀ (suf pre : List Int), l = pre ++ suf →
    Ev (fun k => spec_IsDemands.l0 k l l (l.length : Int) (pre.length : Int)) (suf.all isDem && decide ((l.length : Int) ≤ 8)) := by
  intro suf
  induction suf with
  | nil =>
    intro pre h
    refine ev_succ ?_
    simp only [spec_IsDemands.l0, if_neg (ixn h), List.all_nil, Bool.true_and]
    exact Ev.now _
  | cons a t ih =>
    intro pre h
    obtain ⟨h1, h2, h3, h4⟩ := ix h (by omega)
    refine ev_succ ?_
    simp only [spec_IsDemands.l0, if_pos h1, if_pos (nn _), Int.toNat_natCast, rd, h2, h3, spec_l1In_eq, Option.bind_some]
    change Ev (fun k => if isDem a = true then _ else _) _
    refine ev_ite (fun hc => ?_) (fun hc => ?_)
    · rw [List.all_cons, hc, Bool.true_and]; exact ih _ h4
    · rw [List.all_cons, Bool.eq_false_iff.2 hc, Bool.false_and, Bool.false_and]; exact Ev.now _
theorem spec_IsDemands_ev (l : List Int) (hl : l.length < 1099511627776) : Ev (fun k => spec_IsDemands.f k l) (pDem l) := spec_IsDemands_l0 l hl l [] rfl
theorem impl_IsDemands_l0 (l : List Int) (hl : l.length < 1099511627776) : ∀ (suf pre : List Int), l = pre ++ suf →
    Ev (fun k => impl_IsDemands.l0 k l l (l.length : Int) (pre.length : Int)) (suf.all isDem && decide ((l.length : Int) ≤ 8)) := by
  intro suf
  induction suf with
  | nil =>
    intro pre h
    refine ev_succ ?_
    simp only [impl_IsDemands.l0, if_neg (ixn h), List.all_nil, Bool.true_and]
    exact Ev.now _
  | cons a t ih =>
    intro pre h
    obtain ⟨h1, h2, h3, h4⟩ := ix h (by omega)
    refine ev_succ ?_
    simp only [impl_IsDemands.l0, if_pos h1, if_pos (nn _), Int.toNat_natCast, rd, h2, h3, impl_isWithin_eq, Option.bind_some]
    change Ev (fun k => if isDem a = true then _ else _) _
    refine ev_ite (fun hc => ?_) (fun hc => ?_)
    · rw [List.all_cons, hc, Bool.true_and]; exact ih _ h4
    · rw [List.all_cons, Bool.eq_false_iff.2 hc, Bool.false_and, Bool.false_and]; exact Ev.now _
theorem impl_IsDemands_ev (l : List Int) (hl : l.length < 1099511627776) : Ev (fun k => impl_IsDemands.f k l) (pDem l) := impl_IsDemands_l0 l hl l [] rfl
theorem spec_l5Supply_eq (n : Int) : spec_l5Supply.f n = some (pSup n) := by
  simp only [spec_l5Supply.f, spec_l1In_eq, Option.bind_some, pSup]
theorem impl_isSupply_eq (n : Int) : impl_isSupply.f n = some (pSup n) := by
  simp only [impl_isSupply.f, impl_isWithin_eq, Option.bind_some, pSup]
def pTurn : Int → List Int → List Int
  | _, [] => []
  | rest, x :: l => min x rest :: pTurn (wrap64 (rest - min x rest)) l
theorem pTurn_length : ∀ (l : List Int) (r : Int), (pTurn r l).length = l.length
  | [], _ => rfl
  | x :: l, r => by simp [pTurn, pTurn_length l]
/-- ShareInTurn -/
def pInTurn (n : Int) (l : List Int) : List Int := if pDem l = true then if pSup n = true then pTurn n l else [] else []
theorem pInTurn_length (n : Int) (l : List Int) : (pInTurn n l).length ≤ l.length := by
  unfold pInTurn
  repeat' split
  all_goals simp [pTurn_length]
theorem spec_ShareInTurn_l0 (l : List Int) (hl : l.length < 1099511627776) : ∀ (suf pre out : List Int) (n : Int), l = pre ++ suf → out.length = pre.length →
    Ev (fun k => spec_ShareInTurn.l0 k n out l (l.length : Int) (pre.length : Int)) (out ++ pTurn n suf) := by
  intro suf
  induction suf with
  | nil =>
    intro pre out n h ho
    refine ev_succ ?_
    simp only [spec_ShareInTurn.l0, if_neg (ixn h), pTurn, List.append_nil]
    exact Ev.now _
  | cons a t ih =>
    intro pre out n h ho
    obtain ⟨h1, h2, h3, h4⟩ := ix h (by omega)
    refine ev_succ ?_
    simp only [spec_ShareInTurn.l0, if_pos h1, if_pos (nn _), Int.toNat_natCast, rd, h2, h3, spec_l1Min_eq, Option.bind_some, if_pos (show out.length < 17592186044416 by omega)]
    have := ih (pre ++ [a]) (out ++ [min a n]) (wrap64 (n - min a n)) h4 (by simp [ho])
    simpa [pTurn] using this
theorem spec_ShareInTurn_ev (n : Int) (l : List Int) (hl : l.length < 1099511627776) : Ev (fun k => spec_ShareInTurn.f k n l) (pInTurn n l) := by
  have j1 : Ev (fun k => spec_ShareInTurn.j0 k n l [] true) [] := by
    refine ev_succ ?_
    simp only [spec_ShareInTurn.j0, if_true]; exact Ev.now _
  simp only [spec_ShareInTurn.f, Option.bind_some]
  refine Ev.bind (spec_IsDemands_ev l hl) ?_
  unfold pInTurn
  cases hd : pDem l
  · simpa using j1
  · simp only [if_true, spec_l5Supply_eq, Option.bind_some]
    cases hs : pSup n
    · simpa using j1
    · refine ev_succ ?_
      simp only [spec_ShareInTurn.j0, Bool.not_true, Bool.false_eq_true, if_false, if_true]
      exact spec_ShareInTurn_l0 l hl l [] [] n rfl rfl
theorem impl_ShareInTurn_l0 (l : List Int) (hl : l.length < 1099511627776) : ∀ (suf pre out : List Int) (n : Int), l = pre ++ suf → out.length = pre.length →
    Ev (fun k => impl_ShareInTurn.l0 k n out l (l.length : Int) (pre.length : Int)) (out ++ pTurn n suf) := by
  intro suf
  induction suf with
  | nil =>
    intro pre out n h ho
    refine ev_succ ?_
    simp only [impl_ShareInTurn.l0, if_neg (ixn h), pTurn, List.append_nil]
    exact Ev.now _
  | cons a t ih =>
    intro pre out n h ho
    obtain ⟨h1, h2, h3, h4⟩ := ix h (by omega)
    refine ev_succ ?_
    simp only [impl_ShareInTurn.l0, if_pos h1, if_pos (nn _), Int.toNat_natCast, rd, h2, h3, mn_min, if_pos (show out.length < 17592186044416 by omega)]
    have := ih (pre ++ [a]) (out ++ [min a n]) (wrap64 (n - min a n)) h4 (by simp [ho])
    simpa [pTurn] using this
theorem impl_ShareInTurn_ev (n : Int) (l : List Int) (hl : l.length < 1099511627776) : Ev (fun k => impl_ShareInTurn.f k n l) (pInTurn n l) := by
  have j1 : Ev (fun k => impl_ShareInTurn.j0 k n l [] true) [] := by
    refine ev_succ ?_
    simp only [impl_ShareInTurn.j0, if_true]; exact Ev.now _
  simp only [impl_ShareInTurn.f, Option.bind_some]
  refine Ev.bind (impl_IsDemands_ev l hl) ?_
  unfold pInTurn
  cases hd : pDem l
  · simpa using j1
  · simp only [if_true, impl_isSupply_eq, Option.bind_some]
    cases hs : pSup n
    · simpa using j1
    · refine ev_succ ?_
      simp only [impl_ShareInTurn.j0, Bool.not_true, Bool.false_eq_true, if_false, if_true]
      exact impl_ShareInTurn_l0 l hl l [] [] n rfl rfl
theorem FnExactShareInTurn : laws_FnExactShareInTurn.Pure := by
  intro n l _ _ _ _
  refine Ev.rounds ?_
  unfold laws_FnExactShareInTurn.f
  refine ev_ite (fun _ => Ev.now _) (fun h => ?_)
  have hl : l.length < 1099511627776 := by omega
  refine Ev.bind (laws_toIntS_ev l hl) ?_
  refine Ev.bind (spec_ShareInTurn_ev n l hl) ?_
  have hr : (pInTurn n l).length < 1099511627776 := Nat.lt_of_le_of_lt (pInTurn_length n l) hl
  have hi := impl_ShareInTurn_ev n l hl
  generalize pInTurn n l = r at hr hi
  refine Ev.bind (laws_toIntS_ev l hl) ?_
  refine Ev.bind hi ?_
  refine Ev.bind (laws_eqIntS_rfl r hr) ?_
  simp only [if_true]
  refine Ev.bind (laws_toIntS_ev l hl) ?_
  refine Ev.bind (laws_eqIntS_rfl l hl) ?_
  simp only [if_true]
  refine Ev.bind (laws_markIntS_ev l hl) ?_
  simp only [if_neg (show ¬ (1 + (l.length : Int) < 0) by omega)]
  refine Ev.bind (laws_eqIntS_rfl r hr) ?_
  refine ev_succ ?_
  simp only [laws_FnExactShareInTurn.j0, Bool.not_true, Bool.false_eq_true, if_false]
  refine Ev.bind (laws_markIntS_ev r hr) ?_
  refine Ev.bind (laws_heldIntS_ev r.length hr) ?_
  simp only [if_neg (show ¬ (1 + (r.length : Int) < 0) by omega), if_true]
  refine Ev.bind (laws_toIntS_ev l hl) ?_
  refine Ev.bind hi ?_
  refine Ev.bind (laws_eqIntS_rfl r hr) ?_
  simp only [if_true]
  refine Ev.bind (laws_heldIntS_ev r.length hr) ?_
  simp only [if_neg (show ¬ (1 + (r.length : Int) < 0) by omega), if_true]
  exact Ev.now _

end Go.Proofs.Ytceioaphkepdoaa.Pure
