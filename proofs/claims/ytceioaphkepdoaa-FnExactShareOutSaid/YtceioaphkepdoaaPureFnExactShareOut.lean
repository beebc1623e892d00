/- The law FnExactShareOut comes to true for every input: The program's ShareOut returns what the reference's returns, for all arguments. No condition beside the statement's own. -/
import Derived.Test.YtceioaphkepdoaaStFnExactShareOut
namespace Go.Proofs.Ytceioaphkepdoaa.Pure
open Go Go.RowKit Go.Proofs.Ytceioaphkepdoaa.MFnExactShareOut Go.Proofs.YtceioaphkepdoaaW.PrintWords Go.Proofs.YtceioaphkepdoaaW.PrintLast Go.Proofs.YtceioaphkepdoaaW.PrintMore
set_option linter.unusedVariables false

theorem ev_succ {α : Type} {g : Nat → Option α} {r : α} (h : Ev (fun k => g (k + 1)) r) : Ev g r := Ev.step (fun _ => rfl) h
theorem ev_ite {α : Type} {c : Prop} [Decidable c] {f g : Nat → Option α} {r : α} (h : c → Ev f r) (h' : ¬ c → Ev g r) : Ev (fun k => if c then f k else g k) r := by
  by_cases hc : c
  · simp only [if_pos hc]; exact h hc
  · simp only [if_neg hc]; exact h' hc
theorem ix {α : Type} {l pre t : List α} {a : α} (h : l = pre ++ a :: t) (hl : l.length < 4611686018427387904) :
    (pre.length : Int) < (l.length : Int) ∧ (∀ d, l.getD pre.length d = a) ∧ wrap64 ((pre.length : Int) + 1) = ((pre ++ [a]).length : Int) ∧ l = (pre ++ [a]) ++ t := by
  subst h
  simp only [List.length_append, List.length_cons, List.length_nil] at *
  refine ⟨by omega, fun d => by simp [List.getD], by unfold wrap64; omega, by simp⟩
theorem ixn {α : Type} {l pre : List α} (h : l = pre ++ []) : ¬ (pre.length : Int) < (l.length : Int) := by
  subst h; simp
theorem nn (n : Nat) : (0 : Int) ≤ (n : Int) := Int.natCast_nonneg n
theorem w64 {n : Int} (h0 : -9223372036854775808 ≤ n) (h1 : n < 9223372036854775808) : wrap64 n = n := by unfold wrap64; omega
theorem mn_min (a b : Int) : mn a b = min a b := by unfold mn; omega
theorem mx_max (a b : Int) : mx a b = max a b := by unfold mx; omega
theorem set_app {α : Type} (pre t : List α) (a b : α) : (pre ++ a :: t).set pre.length b = pre ++ b :: t := by simp
theorem app1 {α : Type} (pre : List α) (a : α) (t : List α) : pre ++ a :: t = (pre ++ [a]) ++ t := by simp

/-- The numbers from c on, n of them. -/
def upto : Nat → Int → List Int
  | 0, _ => []
  | n + 1, c => c :: upto n (c + 1)
theorem upto_length : ∀ n c, (upto n c).length = n
  | 0, _ => rfl
  | n + 1, c => by simp [upto, upto_length n]

theorem spec_l1In_eq (a b c : Int) : spec_l1In.f a b c = some (decide (b ≤ a) && decide (a ≤ c)) := by
  unfold spec_l1In.f; split <;> simp <;> omega
theorem impl_isWithin_eq (a b c : Int) : impl_isWithin.f a b c = some (decide (b ≤ a) && decide (a ≤ c)) := by
  unfold impl_isWithin.f; split <;> simp <;> omega
theorem spec_l1Min_eq (a b : Int) : spec_l1Min.f a b = some (min a b) := by
  unfold spec_l1Min.f; split <;> simp <;> omega

theorem laws_toIntS_l0 (l : List Int) (hl : l.length < 1099511627776) : ∀ (suf pre : List Int), l = pre ++ suf →
    Ev (fun k => laws_toIntS.l0 k l (pre ++ List.replicate suf.length 0) (pre.length : Int)) l := by
  intro suf
  induction suf with
  | nil =>
    intro pre h
    refine ev_succ ?_
    simp only [laws_toIntS.l0, if_neg (ixn h)]
    simpa [h] using Ev.now l
  | cons a t ih =>
    intro pre h
    obtain ⟨h1, h2, h3, h4⟩ := ix h (by omega)
    refine ev_succ ?_
    have h5 : (pre.length : Int) < ((pre ++ List.replicate (a :: t).length (0 : Int)).length : Int) := by simp; omega
    simp only [laws_toIntS.l0, if_pos h1, if_pos (nn _), if_pos h5, Int.toNat_natCast, rd, h2, h3]
    have := ih (pre ++ [a]) h4
    rw [List.length_cons, List.replicate_succ, set_app]
    simpa using this
theorem laws_toIntS_ev (l : List Int) (hl : l.length < 1099511627776) : Ev (fun k => laws_toIntS.f k l) l := by
  have := laws_toIntS_l0 l hl l [] rfl
  simp only [laws_toIntS.f, if_pos (nn _), Int.toNat_natCast, if_pos (show l.length ≤ 35184372088832 by omega)]
  simpa using this

theorem laws_eqIntS_l0 (x y : List Int) (hx : x.length = y.length) (hl : x.length < 1099511627776) : ∀ (d i : Nat), i + d = x.length → x.take i = y.take i →
    Ev (fun k => laws_eqIntS.l0 k x y (i : Int)) (x == y) := by
  intro d
  induction d with
  | zero =>
    intro i h e
    refine ev_succ ?_
    simp only [laws_eqIntS.l0, if_neg (show ¬ ((i : Int) < (x.length : Int)) by omega)]
    rw [List.take_of_length_le (by omega), List.take_of_length_le (by omega)] at e
    simpa [e] using Ev.now true
  | succ d ih =>
    intro i h e
    refine ev_succ ?_
    simp only [laws_eqIntS.l0, if_pos (show ((i : Int) < (x.length : Int)) by omega), if_pos (nn _), if_pos (show ((i : Int) < (y.length : Int)) by omega), rd, Int.toNat_natCast]
    have hx1 : i < x.length := by omega
    have hy1 : i < y.length := by omega
    refine ev_ite (fun hc => ?_) (fun hc => ?_)
    · rw [show wrap64 ((i : Int) + 1) = ((i + 1 : Nat) : Int) by unfold wrap64; omega]
      refine ih (i + 1) (by omega) ?_
      rw [List.take_succ_eq_append_getElem hx1, List.take_succ_eq_append_getElem hy1, e]
      simp only [List.getD_eq_getElem?_getD, List.getElem?_eq_getElem hx1, List.getElem?_eq_getElem hy1, Option.getD_some] at hc
      rw [hc]
    · have : (x == y) = false := by
        rw [beq_eq_false_iff_ne]; intro e2; subst e2; exact hc rfl
      rw [this]; exact Ev.now _
theorem laws_eqIntS_ev (x y : List Int) (hl : x.length < 1099511627776) : Ev (fun k => laws_eqIntS.f k x y) (x == y) := by
  unfold laws_eqIntS.f
  refine ev_ite (fun h => ?_) (fun h => ?_)
  · exact laws_eqIntS_l0 x y (by omega) hl x.length 0 (by omega) rfl
  · have : (x == y) = false := by
      rw [beq_eq_false_iff_ne]; intro e2; subst e2; exact h rfl
    rw [this]; exact Ev.now _
theorem laws_eqIntS_rfl (x : List Int) (hl : x.length < 1099511627776) : Ev (fun k => laws_eqIntS.f k x x) true := by
  have := laws_eqIntS_ev x x hl
  rwa [beq_self_eq_true] at this

theorem laws_markIntS_l0 : ∀ (suf pre : List Int) (c : Int), 0 ≤ c → pre.length + suf.length < 1099511627776 → c + suf.length < 4611686018427387904 →
    Ev (fun k => laws_markIntS.l0 k (pre ++ suf) c (pre.length : Int)) (c + suf.length, pre ++ upto suf.length c) := by
  intro suf
  induction suf with
  | nil =>
    intro pre c _ _ _
    refine ev_succ ?_
    simp only [laws_markIntS.l0, if_neg (ixn (pre := pre) rfl)]
    simpa [upto] using Ev.now (c, pre)
  | cons a t ih =>
    intro pre c h0 hl hm
    simp only [List.length_cons] at hl hm
    obtain ⟨h1, h2, h3, h4⟩ := ix (l := pre ++ a :: t) rfl (by simp; omega)
    refine ev_succ ?_
    simp only [laws_markIntS.l0, if_pos h1, if_pos (nn _), Int.toNat_natCast, set_app]
    rw [show wrap64 (c + 1) = c + 1 by unfold wrap64; omega, show wrap64 ((pre.length : Int) + 1) = ((pre ++ [c]).length : Int) by simp; unfold wrap64; omega, app1]
    have := ih (pre ++ [c]) (c + 1) (by omega) (by simp; omega) (by omega)
    simp only [List.length_cons, upto, List.append_assoc, List.singleton_append] at this ⊢
    rwa [show c + ((t.length + 1 : Nat) : Int) = c + 1 + t.length by omega]
theorem laws_markIntS_ev (l : List Int) (hl : l.length < 1099511627776) : Ev (fun k => laws_markIntS.f k l 1) (1 + l.length, upto l.length 1) := by
  have := laws_markIntS_l0 l [] 1 (by omega) (by simp; omega) (by omega)
  simpa [laws_markIntS.f] using this
theorem laws_heldIntS_l0 : ∀ (n : Nat) (pre : List Int) (c : Int), 0 ≤ c → pre.length + n < 1099511627776 → c + n < 4611686018427387904 →
    Ev (fun k => laws_heldIntS.l0 k (pre ++ upto n c) c (pre.length : Int)) (c + n) := by
  intro n
  induction n with
  | zero =>
    intro pre c _ _ _
    refine ev_succ ?_
    simp only [laws_heldIntS.l0, upto, List.append_nil, if_neg (show ¬ ((pre.length : Int) < (pre.length : Int)) by omega)]
    simpa using Ev.now c
  | succ n ih =>
    intro pre c h0 hl hm
    obtain ⟨h1, h2, h3, h4⟩ := ix (l := pre ++ c :: upto n (c + 1)) rfl (by simp [upto_length]; omega)
    refine ev_succ ?_
    simp only [laws_heldIntS.l0, upto, if_pos h1, if_pos (nn _), Int.toNat_natCast, rd, h2, h3, if_true]
    rw [show wrap64 (c + 1) = c + 1 by unfold wrap64; omega, app1]
    have := ih (pre ++ [c]) (c + 1) (by omega) (by simp; omega) (by omega)
    rwa [show c + ((n + 1 : Nat) : Int) = c + 1 + n by omega]
theorem laws_heldIntS_ev (n : Nat) (hl : n < 1099511627776) : Ev (fun k => laws_heldIntS.f k (upto n 1) 1) (1 + n) := by
  have := laws_heldIntS_l0 n [] 1 (by omega) (by simp; omega) (by omega)
  simpa [laws_heldIntS.f] using this

def isDem (x : Int) : Bool := decide (0 ≤ x) && decide (x ≤ 64)
/-- IsDemands -/
def pDem (l : List Int) : Bool := l.all isDem && decide ((l.length : Int) ≤ 8)
def pSup (n : Int) : Bool := decide (0 ≤ n) && decide (n ≤ 512)
def wsum (l : List Int) : Int := l.foldl (fun s x => wrap64 (s + x)) 0
def pCut (l : List Int) (level : Int) : List Int := l.map fun x => min x level
theorem pDem_len {l : List Int} (h : pDem l = true) : l.length ≤ 8 := by
  simp only [pDem, Bool.and_eq_true, decide_eq_true_eq] at h; omega
theorem pDem_mem {l : List Int} (h : pDem l = true) : ∀ x ∈ l, 0 ≤ x ∧ x ≤ 64 := by
  simp only [pDem, Bool.and_eq_true, List.all_eq_true, isDem, decide_eq_true_eq] at h
  exact h.1
theorem pCut_length (l : List Int) (v : Int) : (pCut l v).length = l.length := by simp [pCut]

theorem spec_IsDemands_l0 (l : List Int) (hl : l.length < 1099511627776) : ∀ (suf pre : List Int), l = pre ++ suf →
    Ev (fun k => spec_IsDemands.l0 k l l (l.length : Int) (pre.length : Int)) (suf.all isDem && decide ((l.length : Int) ≤ 8)) := by
  intro suf
  induction suf with
  | nil =>
    intro pre h
    refine ev_succ ?_
    simp only [spec_IsDemands.l0, if_neg (ixn h), List.all_nil, Bool.true_and]
    exact Ev.now _
  | cons a t ih =>
    intro pre h
    obtain ⟨h1, h2, h3, h4⟩ := ix h (by omega)
    refine ev_succ ?_
    simp only [spec_IsDemands.l0, if_pos h1, if_pos (nn _), Int.toNat_natCast, rd, h2, h3, spec_l1In_eq, Option.bind_some]
    change Ev (fun k => if isDem a = true then _ else _) _
    refine ev_ite (fun hc => ?_) (fun hc => ?_)
    · rw [List.all_cons, hc, Bool.true_and]; exact ih _ h4
    · rw [List.all_cons, Bool.eq_false_iff.2 hc, Bool.false_and, Bool.false_and]; exact Ev.now _
theorem spec_IsDemands_ev (l : List Int) (hl : l.length < 1099511627776) : Ev (fun k => spec_IsDemands.f k l) (pDem l) := spec_IsDemands_l0 l hl l [] rfl
theorem impl_IsDemands_l0 (l : List Int) (hl : l.length < 1099511627776) : ∀ (suf pre : List Int), l = pre ++ suf →
    Ev (fun k => impl_IsDemands.l0 k l l (l.length : Int) (pre.length : Int)) (suf.all isDem && decide ((l.length : Int) ≤ 8)) := by
  intro suf
  induction suf with
  | nil =>
    intro pre h
    refine ev_succ ?_
    simp only [impl_IsDemands.l0, if_neg (ixn h), List.all_nil, Bool.true_and]
    exact Ev.now _
  | cons a t ih =>
    intro pre h
    obtain ⟨h1, h2, h3, h4⟩ := ix h (by omega)
    refine ev_succ ?_
    simp only [impl_IsDemands.l0, if_pos h1, if_pos (nn _), Int.toNat_natCast, rd, h2, h3, impl_isWithin_eq, Option.bind_some]
    change Ev (fun k => if isDem a = true then _ else _) _
    refine ev_ite (fun hc => ?_) (fun hc => ?_)
    · rw [List.all_cons, hc, Bool.true_and]; exact ih _ h4
    · rw [List.all_cons, Bool.eq_false_iff.2 hc, Bool.false_and, Bool.false_and]; exact Ev.now _
theorem impl_IsDemands_ev (l : List Int) (hl : l.length < 1099511627776) : Ev (fun k => impl_IsDemands.f k l) (pDem l) := impl_IsDemands_l0 l hl l [] rfl
theorem spec_l5Supply_eq (n : Int) : spec_l5Supply.f n = some (pSup n) := by
  simp only [spec_l5Supply.f, spec_l1In_eq, Option.bind_some, pSup]
theorem impl_isSupply_eq (n : Int) : impl_isSupply.f n = some (pSup n) := by
  simp only [impl_isSupply.f, impl_isWithin_eq, Option.bind_some, pSup]
theorem spec_l5Sum_l0 (l : List Int) (hl : l.length < 1099511627776) : ∀ (suf pre : List Int) (s : Int), l = pre ++ suf →
    Ev (fun k => spec_l5Sum.l0 k s l (l.length : Int) (pre.length : Int)) (suf.foldl (fun s x => wrap64 (s + x)) s) := by
  intro suf
  induction suf with
  | nil =>
    intro pre s h
    refine ev_succ ?_
    simp only [spec_l5Sum.l0, if_neg (ixn h)]
    exact Ev.now _
  | cons a t ih =>
    intro pre s h
    obtain ⟨h1, h2, h3, h4⟩ := ix h (by omega)
    refine ev_succ ?_
    simp only [spec_l5Sum.l0, if_pos h1, if_pos (nn _), Int.toNat_natCast, rd, h2, h3]
    exact ih _ _ h4
theorem spec_l5Sum_ev (l : List Int) (hl : l.length < 1099511627776) : Ev (fun k => spec_l5Sum.f k l) (wsum l) := spec_l5Sum_l0 l hl l [] 0 rfl
theorem impl_sumOf_l0 (l : List Int) (hl : l.length < 1099511627776) : ∀ (suf pre : List Int) (s : Int), l = pre ++ suf →
    Ev (fun k => impl_sumOf.l0 k s l (l.length : Int) (pre.length : Int)) (suf.foldl (fun s x => wrap64 (s + x)) s) := by
  intro suf
  induction suf with
  | nil =>
    intro pre s h
    refine ev_succ ?_
    simp only [impl_sumOf.l0, if_neg (ixn h)]
    exact Ev.now _
  | cons a t ih =>
    intro pre s h
    obtain ⟨h1, h2, h3, h4⟩ := ix h (by omega)
    refine ev_succ ?_
    simp only [impl_sumOf.l0, if_pos h1, if_pos (nn _), Int.toNat_natCast, rd, h2, h3]
    exact ih _ _ h4
theorem impl_sumOf_ev (l : List Int) (hl : l.length < 1099511627776) : Ev (fun k => impl_sumOf.f k l) (wsum l) := impl_sumOf_l0 l hl l [] 0 rfl
theorem spec_l5Cut_l0 (l : List Int) (v : Int) (hl : l.length < 1099511627776) : ∀ (suf pre : List Int), l = pre ++ suf →
    Ev (fun k => spec_l5Cut.l0 k v (pCut pre v) l (l.length : Int) (pre.length : Int)) (pCut l v) := by
  intro suf
  induction suf with
  | nil =>
    intro pre h
    refine ev_succ ?_
    simp only [spec_l5Cut.l0, if_neg (ixn h)]
    simpa [h] using Ev.now (pCut l v)
  | cons a t ih =>
    intro pre h
    obtain ⟨h1, h2, h3, h4⟩ := ix h (by omega)
    refine ev_succ ?_
    simp only [spec_l5Cut.l0, if_pos h1, if_pos (nn _), Int.toNat_natCast, rd, h2, h3, spec_l1Min_eq, Option.bind_some, pCut_length, if_pos (show pre.length < 17592186044416 by omega)]
    have := ih (pre ++ [a]) h4
    simpa [pCut] using this
theorem spec_l5Cut_ev (l : List Int) (v : Int) (hl : l.length < 1099511627776) : Ev (fun k => spec_l5Cut.f k l v) (pCut l v) := spec_l5Cut_l0 l v hl l [] rfl
theorem impl_CutAt_l0 (l : List Int) (v : Int) (hl : l.length < 1099511627776) : ∀ (suf pre : List Int), l = pre ++ suf →
    Ev (fun k => impl_CutAt.l0 k v (pCut pre v) l (l.length : Int) (pre.length : Int)) (pCut l v) := by
  intro suf
  induction suf with
  | nil =>
    intro pre h
    refine ev_succ ?_
    simp only [impl_CutAt.l0, if_neg (ixn h)]
    simpa [h] using Ev.now (pCut l v)
  | cons a t ih =>
    intro pre h
    obtain ⟨h1, h2, h3, h4⟩ := ix h (by omega)
    refine ev_succ ?_
    simp only [impl_CutAt.l0, if_pos h1, if_pos (nn _), Int.toNat_natCast, rd, h2, h3, mn_min, pCut_length, if_pos (show pre.length < 17592186044416 by omega)]
    have := ih (pre ++ [a]) h4
    simpa [pCut] using this
theorem impl_CutAt_ev (l : List Int) (v : Int) (hl : l.length < 1099511627776) : Ev (fun k => impl_CutAt.f k l v) (if pDem l = true then if v < 0 then [] else pCut l v else []) := by
  have j1 : Ev (fun k => impl_CutAt.j0 k l v [] true) [] := by
    refine ev_succ ?_
    simp only [impl_CutAt.j0, if_true]; exact Ev.now _
  simp only [impl_CutAt.f, Option.bind_some]
  refine Ev.bind (impl_IsDemands_ev l hl) ?_
  refine Decidable.byCases (fun h : pDem l = true => ?_) (fun h => ?_)
  · simp only [if_pos h]
    by_cases hv : v < 0
    · simpa only [decide_eq_true hv, if_pos hv] using j1
    · simp only [decide_eq_false hv, if_neg hv]
      refine ev_succ ?_
      simp only [impl_CutAt.j0, Bool.false_eq_true, if_false]
      exact impl_CutAt_l0 l v hl l [] rfl
  · simpa only [if_neg h] using j1
/-- The greatest level at which the sum is within the supply. -/
def lev (S : Int → Int) (n : Int) : Nat → Int
  | 0 => 0
  | v + 1 => if S ((v + 1 : Nat) : Int) ≤ n then ((v + 1 : Nat) : Int) else lev S n v
theorem lev_range (S : Int → Int) (n : Int) : ∀ v : Nat, 0 ≤ lev S n v ∧ lev S n v ≤ v
  | 0 => by simp [lev]
  | v + 1 => by
    have := lev_range S n v
    unfold lev
    split <;> omega
def cutSum (l : List Int) (v : Int) : Int := wsum (pCut l v)
/-- LevelFor -/
def pLevel (n : Int) (l : List Int) : Int := if pDem l = true then if pSup n = true then lev (cutSum l) n 64 else 0 else 0
theorem pLevel_nonneg (n : Int) (l : List Int) : 0 ≤ pLevel n l := by
  unfold pLevel
  split
  · split
    · exact (lev_range _ _ _).1
    · omega
  · omega
theorem cutSum_zero {l : List Int} (h : ∀ x ∈ l, 0 ≤ x ∧ x ≤ 64) : cutSum l 0 = 0 := by
  unfold cutSum wsum pCut
  induction l with
  | nil => rfl
  | cons a t ih =>
    have ha := h a (by simp)
    simp only [List.map_cons, List.foldl_cons]
    rw [show min a 0 = 0 by omega, show wrap64 (0 + 0) = 0 by unfold wrap64; omega]
    exact ih (fun x hx => h x (by simp [hx]))
theorem impl_LevelFor_l0 (n : Int) (l : List Int) (hl : l.length < 1099511627776) (hd : pDem l = true) (hn : 0 ≤ n) : ∀ v : Nat, v < 1099511627776 →
    Ev (fun k => impl_LevelFor.l0 k n l (v : Int)) (lev (cutSum l) n v) := by
  have hc : ∀ v : Nat, Ev (fun k => impl_CutAt.f k l (v : Int)) (pCut l v) := by
    intro v
    have := impl_CutAt_ev l v hl
    rwa [if_pos hd, if_neg (by omega)] at this
  intro v
  induction v with
  | zero =>
    intro _
    refine ev_succ ?_
    simp only [impl_LevelFor.l0]
    refine Ev.bind (hc 0) ?_
    refine Ev.bind (impl_sumOf_ev _ (by rw [pCut_length]; exact hl)) ?_
    have := cutSum_zero (pDem_mem hd)
    change Ev (fun k => if cutSum l ((0 : Nat) : Int) > n then _ else _) _
    rw [show ((0 : Nat) : Int) = 0 from rfl, this]
    simp only [if_neg (show ¬ (0 > n) by omega), lev]
    exact Ev.now _
  | succ v ih =>
    intro hv
    refine ev_succ ?_
    simp only [impl_LevelFor.l0]
    refine Ev.bind (hc (v + 1)) ?_
    refine Ev.bind (impl_sumOf_ev _ (by rw [pCut_length]; exact hl)) ?_
    change Ev (fun k => if cutSum l ((v + 1 : Nat) : Int) > n then _ else _) _
    unfold lev
    refine ev_ite (fun h => ?_) (fun h => ?_)
    · rw [if_neg (by omega), show wrap64 (((v + 1 : Nat) : Int) - 1) = (v : Int) by unfold wrap64; omega]
      exact ih (by omega)
    · rw [if_pos (by omega)]
      exact Ev.now _
theorem impl_LevelFor_ev (n : Int) (l : List Int) (hl : l.length < 1099511627776) : Ev (fun k => impl_LevelFor.f k n l) (pLevel n l) := by
  have j1 : Ev (fun k => impl_LevelFor.j0 k n l true) 0 := by
    refine ev_succ ?_
    simp only [impl_LevelFor.j0, if_true]; exact Ev.now _
  unfold impl_LevelFor.f pLevel
  refine Ev.bind (impl_IsDemands_ev l hl) ?_
  cases hd : pDem l
  · simpa using j1
  · simp only [if_true, impl_isSupply_eq, Option.bind_some]
    cases hs : pSup n
    · simpa using j1
    · refine ev_succ ?_
      simp only [impl_LevelFor.j0, Bool.not_true, Bool.false_eq_true, if_false, if_true]
      have h0 : 0 ≤ n := by simp only [pSup, Bool.and_eq_true, decide_eq_true_eq] at hs; exact hs.1
      exact impl_LevelFor_l0 n l hl hd h0 64 (by omega)
theorem spec_LevelFor_l0 (n : Int) (l : List Int) (hl : l.length < 1099511627776) (hd : pDem l = true) (hs : pSup n = true) : ∀ (d v : Nat), v + d = 64 →
    Ev (fun k => spec_LevelFor.l0 k n l (lev (cutSum l) n v) ((v : Int) + 1)) (lev (cutSum l) n 64) := by
  intro d
  induction d with
  | zero =>
    intro v h
    obtain rfl : v = 64 := by omega
    refine ev_succ ?_
    simp only [spec_LevelFor.l0, if_neg (show ¬ (((64 : Nat) : Int) + 1 ≤ 64) by omega)]
    refine ev_succ ?_
    simp only [spec_LevelFor.j1, Bool.false_eq_true, if_false]
    exact Ev.now _
  | succ d ih =>
    intro v h
    refine ev_succ ?_
    simp only [spec_LevelFor.l0, if_pos (show ((v : Int) + 1 ≤ 64) by omega)]
    refine Ev.bind (spec_IsDemands_ev l hl) ?_
    simp only [hd, if_true, spec_l5Supply_eq, hs, Option.bind_some]
    refine ev_succ ?_
    simp only [spec_LevelFor.j1, if_true]
    refine Ev.bind (spec_l5Cut_ev l _ hl) ?_
    refine Ev.bind (spec_l5Sum_ev _ (by rw [pCut_length]; exact hl)) ?_
    have := ih (v + 1) (by omega)
    rw [show wrap64 ((v : Int) + 1 + 1) = ((v + 1 : Nat) : Int) + 1 by unfold wrap64; omega]
    rw [lev] at this
    change Ev (fun k => if cutSum l ((v : Int) + 1) ≤ n then _ else _) _
    refine ev_ite (fun h => ?_) (fun h => ?_)
    · rwa [if_pos (by exact h)] at this
    · rwa [if_neg (by exact h)] at this
theorem spec_LevelFor_ev (n : Int) (l : List Int) (hl : l.length < 1099511627776) : Ev (fun k => spec_LevelFor.f k n l) (pLevel n l) := by
  have j1 : ∀ v, Ev (fun k => spec_LevelFor.j1 k n l 0 v false) 0 := by
    intro v
    refine ev_succ ?_
    simp only [spec_LevelFor.j1, Bool.false_eq_true, if_false]; exact Ev.now _
  unfold pLevel
  by_cases hd : pDem l = true
  · rw [if_pos hd]
    by_cases hs : pSup n = true
    · rw [if_pos hs]
      exact spec_LevelFor_l0 n l hl hd hs 64 0 (by omega)
    · rw [if_neg hs]
      unfold spec_LevelFor.f
      refine ev_succ ?_
      simp only [spec_LevelFor.l0, if_pos (show ((1 : Int) ≤ 64) by omega)]
      refine Ev.bind (spec_IsDemands_ev l hl) ?_
      simp only [hd, if_true, spec_l5Supply_eq, Bool.eq_false_iff.2 hs, Option.bind_some]
      exact j1 1
  · rw [if_neg hd]
    unfold spec_LevelFor.f
    refine ev_succ ?_
    simp only [spec_LevelFor.l0, if_pos (show ((1 : Int) ≤ 64) by omega)]
    refine Ev.bind (spec_IsDemands_ev l hl) ?_
    simp only [if_neg hd]
    exact j1 1
/-- ShareOut's last round. -/
def shLoop (level : Int) : Int → List Int → List Int → List Int
  | rest, x :: l, o :: out => if x > level then if rest > 0 then wrap64 (o + 1) :: shLoop level (wrap64 (rest - 1)) l out else o :: shLoop level rest l out else o :: shLoop level rest l out
  | _, _, out => out
theorem shLoop_length (level : Int) : ∀ (l out : List Int) (rest : Int), (shLoop level rest l out).length = out.length
  | [], out, _ => by simp [shLoop]
  | x :: l, [], _ => by simp [shLoop]
  | x :: l, o :: out, rest => by
    unfold shLoop
    repeat' split
    all_goals simp [shLoop_length level l out]
/-- ShareOut -/
def pShare (n : Int) (l : List Int) : List Int := if pDem l = true then if pSup n = true then shLoop (pLevel n l) (wrap64 (n - cutSum l (pLevel n l))) l (pCut l (pLevel n l)) else [] else []
theorem pShare_length (n : Int) (l : List Int) : (pShare n l).length ≤ l.length := by
  unfold pShare
  repeat' split
  all_goals simp [shLoop_length, pCut]
theorem impl_ShareOut_l0 (level : Int) (l : List Int) (hl : l.length < 1099511627776) : ∀ (suf pre preo sufo : List Int) (rest : Int), l = pre ++ suf → preo.length = pre.length → sufo.length = suf.length →
    Ev (fun k => impl_ShareOut.l0 k level (preo ++ sufo) rest l (l.length : Int) (pre.length : Int)) (preo ++ shLoop level rest suf sufo) := by
  intro suf
  induction suf with
  | nil =>
    intro pre preo sufo rest h ho hs
    refine ev_succ ?_
    simp only [impl_ShareOut.l0, if_neg (ixn h), shLoop]
    exact Ev.now _
  | cons a t ih =>
    intro pre preo sufo rest h ho hs
    match sufo, hs with
    | o :: sufo, hs =>
    obtain ⟨h1, h2, h3, h4⟩ := ix h (by omega)
    have hlen : preo.length + (sufo.length + 1) = l.length := by simp [h, ho] at hs ⊢; omega
    obtain ⟨g1, g2, g3, g4⟩ := ix (l := preo ++ o :: sufo) rfl (by simp; omega)
    have hs' : sufo.length = t.length := by simpa using hs
    refine ev_succ ?_
    rw [ho] at g1 g2
    simp only [impl_ShareOut.l0, if_pos h1, if_pos (nn _), Int.toNat_natCast, rd, h2, h3, g2, if_pos g1]
    have e1 : (preo ++ o :: sufo).set pre.length (wrap64 (o + 1)) = (preo ++ [wrap64 (o + 1)]) ++ sufo := by rw [← ho, set_app]; simp
    have e2 := ih (pre ++ [a]) (preo ++ [o]) sufo rest h4 (by simp [ho]) hs'
    unfold shLoop
    refine ev_ite (fun c => ?_) (fun c => ?_)
    · rw [if_pos c]
      refine ev_ite (fun c2 => ?_) (fun c2 => ?_)
      · rw [if_pos c2, e1]
        have := ih (pre ++ [a]) (preo ++ [wrap64 (o + 1)]) sufo (wrap64 (rest - 1)) h4 (by simp [ho]) hs'
        simpa using this
      · rw [if_neg c2]; simpa using e2
    · rw [if_neg c]; simpa using e2
theorem impl_ShareOut_ev (n : Int) (l : List Int) (hl : l.length < 1099511627776) : Ev (fun k => impl_ShareOut.f k n l) (pShare n l) := by
  have j1 : Ev (fun k => impl_ShareOut.j0 k n l true) [] := by
    refine ev_succ ?_
    simp only [impl_ShareOut.j0, if_true]; exact Ev.now _
  unfold impl_ShareOut.f pShare
  refine Ev.bind (impl_IsDemands_ev l hl) ?_
  cases hd : pDem l
  · simpa using j1
  · simp only [if_true, impl_isSupply_eq, Option.bind_some]
    cases hs : pSup n
    · simpa using j1
    · refine ev_succ ?_
      simp only [impl_ShareOut.j0, Bool.not_true, Bool.false_eq_true, if_false, if_true]
      refine Ev.bind (impl_LevelFor_ev n l hl) ?_
      have hp := pLevel_nonneg n l
      have hc := impl_CutAt_ev l (pLevel n l) hl
      rw [if_pos hd, if_neg (by omega)] at hc
      refine Ev.bind hc ?_
      refine Ev.bind (impl_sumOf_ev _ (by rw [pCut_length]; exact hl)) ?_
      exact impl_ShareOut_l0 _ l hl l [] [] _ _ rfl rfl (pCut_length _ _)
theorem spec_ShareOut_l0 (level : Int) (l : List Int) (hl : l.length < 1099511627776) : ∀ (suf pre preo sufo : List Int) (rest : Int), l = pre ++ suf → preo.length = pre.length → sufo.length = suf.length →
    Ev (fun k => spec_ShareOut.l0 k level (preo ++ sufo) rest l (l.length : Int) (pre.length : Int)) (preo ++ shLoop level rest suf sufo) := by
  intro suf
  induction suf with
  | nil =>
    intro pre preo sufo rest h ho hs
    refine ev_succ ?_
    simp only [spec_ShareOut.l0, if_neg (ixn h), shLoop]
    exact Ev.now _
  | cons a t ih =>
    intro pre preo sufo rest h ho hs
    match sufo, hs with
    | o :: sufo, hs =>
    obtain ⟨h1, h2, h3, h4⟩ := ix h (by omega)
    have hlen : preo.length + (sufo.length + 1) = l.length := by simp [h, ho] at hs ⊢; omega
    obtain ⟨g1, g2, g3, g4⟩ := ix (l := preo ++ o :: sufo) rfl (by simp; omega)
    have hs' : sufo.length = t.length := by simpa using hs
    refine ev_succ ?_
    rw [ho] at g1 g2
    simp only [spec_ShareOut.l0, if_pos h1, if_pos (nn _), Int.toNat_natCast, rd, h2, h3, g2, if_pos g1]
    have e1 : (preo ++ o :: sufo).set pre.length (wrap64 (o + 1)) = (preo ++ [wrap64 (o + 1)]) ++ sufo := by rw [← ho, set_app]; simp
    have e2 := ih (pre ++ [a]) (preo ++ [o]) sufo rest h4 (by simp [ho]) hs'
    unfold shLoop
    refine ev_ite (fun c => ?_) (fun c => ?_)
    · rw [if_pos c]
      refine ev_ite (fun c2 => ?_) (fun c2 => ?_)
      · rw [if_pos c2, e1]
        have := ih (pre ++ [a]) (preo ++ [wrap64 (o + 1)]) sufo (wrap64 (rest - 1)) h4 (by simp [ho]) hs'
        simpa using this
      · rw [if_neg c2]; simpa using e2
    · rw [if_neg c]; simpa using e2
theorem spec_ShareOut_ev (n : Int) (l : List Int) (hl : l.length < 1099511627776) : Ev (fun k => spec_ShareOut.f k n l) (pShare n l) := by
  have j1 : Ev (fun k => spec_ShareOut.j0 k n l true) [] := by
    refine ev_succ ?_
    simp only [spec_ShareOut.j0, if_true]; exact Ev.now _
  unfold spec_ShareOut.f pShare
  refine Ev.bind (spec_IsDemands_ev l hl) ?_
  cases hd : pDem l
  · simpa using j1
  · simp only [if_true, spec_l5Supply_eq, Option.bind_some]
    cases hs : pSup n
    · simpa using j1
    · refine ev_succ ?_
      simp only [spec_ShareOut.j0, Bool.not_true, Bool.false_eq_true, if_false, if_true]
      refine Ev.bind (spec_LevelFor_ev n l hl) ?_
      refine Ev.bind (spec_l5Cut_ev l _ hl) ?_
      refine Ev.bind (spec_l5Sum_ev _ (by rw [pCut_length]; exact hl)) ?_
      exact spec_ShareOut_l0 _ l hl l [] [] _ _ rfl rfl (pCut_length _ _)
theorem FnExactShareOut : laws_FnExactShareOut.Pure := by
  intro n l _ _ _ _
  refine Ev.rounds ?_
  unfold laws_FnExactShareOut.f
  refine ev_ite (fun _ => Ev.now _) (fun h => ?_)
  have hl : l.length < 1099511627776 := by omega
  refine Ev.bind (laws_toIntS_ev l hl) ?_
  refine Ev.bind (spec_ShareOut_ev n l hl) ?_
  have hr : (pShare n l).length < 1099511627776 := Nat.lt_of_le_of_lt (pShare_length n l) hl
  have hi := impl_ShareOut_ev n l hl
  generalize pShare n l = r at hr hi
  refine Ev.bind (laws_toIntS_ev l hl) ?_
  refine Ev.bind hi ?_
  refine Ev.bind (laws_eqIntS_rfl r hr) ?_
  simp only [if_true]
  refine Ev.bind (laws_toIntS_ev l hl) ?_
  refine Ev.bind (laws_eqIntS_rfl l hl) ?_
  simp only [if_true]
  refine Ev.bind (laws_markIntS_ev l hl) ?_
  simp only [if_neg (show ¬ (1 + (l.length : Int) < 0) by omega)]
  refine Ev.bind (laws_eqIntS_rfl r hr) ?_
  refine ev_succ ?_
  simp only [laws_FnExactShareOut.j0, Bool.not_true, Bool.false_eq_true, if_false]
  refine Ev.bind (laws_markIntS_ev r hr) ?_
  refine Ev.bind (laws_heldIntS_ev r.length hr) ?_
  simp only [if_neg (show ¬ (1 + (r.length : Int) < 0) by omega), if_true]
  refine Ev.bind (laws_toIntS_ev l hl) ?_
  refine Ev.bind hi ?_
  refine Ev.bind (laws_eqIntS_rfl r hr) ?_
  simp only [if_true]
  refine Ev.bind (laws_heldIntS_ev r.length hr) ?_
  simp only [if_neg (show ¬ (1 + (r.length : Int) < 0) by omega), if_true]
  exact Ev.now _

end Go.Proofs.Ytceioaphkepdoaa.Pure
