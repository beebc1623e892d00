/- The law FnExactFindDevice comes to true for every input: The program's FindDevice returns what the reference's returns, for all arguments. No condition beside the statement's own. -/
import Derived.Test.YtkedcokhcgklpaaStFnExactFindDevice
namespace Go.Proofs.Ytkedcokhcgklpaa.Pure
open Go Go.RowKit Go.Proofs.Ytkedcokhcgklpaa.MFnExactFindDevice Go.Proofs.YtkedcokhcgklpaaW.PrintWords Go.Proofs.YtkedcokhcgklpaaW.PrintLast Go.Proofs.YtkedcokhcgklpaaW.PrintMore
set_option linter.unusedVariables false
set_option linter.unusedSimpArgs false

theorem ev_succ {α : Type} {g : Nat → Option α} {r : α} (h : Ev (fun k => g (k + 1)) r) : Ev g r := Ev.step (fun _ => rfl) h
theorem ev_ite {α : Type} {c : Prop} [Decidable c] {f g : Nat → Option α} {r : α} (h : c → Ev f r) (h' : ¬ c → Ev g r) : Ev (fun k => if c then f k else g k) r := by
  by_cases hc : c
  · simp only [if_pos hc]; exact h hc
  · simp only [if_neg hc]; exact h' hc
theorem ix {α : Type} {l pre t : List α} {a : α} (h : l = pre ++ a :: t) (hl : l.length < 4611686018427387904) :
    (pre.length : Int) < (l.length : Int) ∧ (∀ d, l.getD pre.length d = a) ∧ wrap64 ((pre.length : Int) + 1) = ((pre ++ [a]).length : Int) ∧ l = (pre ++ [a]) ++ t := by
  subst h
  simp only [List.length_append, List.length_cons, List.length_nil] at *
  refine ⟨by omega, fun d => by simp [List.getD], by unfold wrap64; omega, by simp⟩
theorem ixn {α : Type} {l pre : List α} (h : l = pre ++ []) : ¬ (pre.length : Int) < (l.length : Int) := by
  subst h; simp
theorem nn (n : Nat) : (0 : Int) ≤ (n : Int) := Int.natCast_nonneg n
theorem w64 {n : Int} (h0 : -9223372036854775808 ≤ n) (h1 : n < 9223372036854775808) : wrap64 n = n := by unfold wrap64; omega
theorem mn_min (a b : Int) : mn a b = min a b := by unfold mn; omega
theorem mx_max (a b : Int) : mx a b = max a b := by unfold mx; omega
theorem set_app {α : Type} (pre t : List α) (a b : α) : (pre ++ a :: t).set pre.length b = pre ++ b :: t := by simp
theorem app1 {α : Type} (pre : List α) (a : α) (t : List α) : pre ++ a :: t = (pre ++ [a]) ++ t := by simp

/-- The numbers from c on, n of them. -/
def upto : Nat → Int → List Int
  | 0, _ => []
  | n + 1, c => c :: upto n (c + 1)
theorem upto_length : ∀ n c, (upto n c).length = n
  | 0, _ => rfl
  | n + 1, c => by simp [upto, upto_length n]

theorem ix2 {α : Type} {l pre t : List α} {p a : α} (h : l = (pre ++ [p]) ++ a :: t) (hl : l.length < 4611686018427387904) :
    (((pre ++ [p]).length : Int)) > 0 ∧ wrap64 (((pre ++ [p]).length : Int) - 1) = (pre.length : Int) ∧ (∀ d, l.getD pre.length d = p) ∧ (pre.length : Int) < (l.length : Int) := by
  subst h
  simp only [List.length_append, List.length_cons, List.length_nil] at *
  refine ⟨by omega, by unfold wrap64; omega, fun d => by simp [List.getD], by omega⟩
theorem ev_eq {α : Type} {f g : Nat → Option α} {r : α} (h : f = g) (k : Ev g r) : Ev f r := h ▸ k
theorem laws_toPlace_eq (a b : Int) : laws_toPlace.f a b = some (a, b) := rfl
theorem laws_eqPlace_rfl (a b : Int) : laws_eqPlace.f a b a b = some true := by simp [laws_eqPlace.f]
abbrev De := S30
abbrev LDe := S25
def dIdx (x : ByteArray) : List De → Int → Int
  | [], _ => -1
  | a :: t, i => if a.f0.toList = x.toList then i else dIdx x t (i + 1)
/-- FindDevice -/
def pFind (l : List De) (x : ByteArray) : Int := dIdx x l 0
theorem dIdx_range (x : ByteArray) : ∀ (l : List De) (i : Int), dIdx x l i = -1 ∨ (i ≤ dIdx x l i ∧ dIdx x l i < i + l.length)
  | [], _ => .inl rfl
  | a :: t, i => by
    rw [dIdx]
    by_cases c : a.f0.toList = x.toList
    · rw [if_pos c]; right; simp; omega
    · rw [if_neg c]
      rcases dIdx_range x t (i + 1) with h | h
      · exact .inl h
      · right; simp at h ⊢; omega
theorem pFind_range (l : List De) (x : ByteArray) : pFind l x = -1 ∨ (0 ≤ pFind l x ∧ pFind l x < l.length) := by
  have := dIdx_range x l 0
  unfold pFind; omega
theorem spec_FindDevice_l0 (l : List De) (x : ByteArray) (hl : l.length < 1099511627776) : ∀ (suf pre : List De), l = pre ++ suf →
    Ev (fun k => spec_FindDevice.l0 k x l (l.length : Int) (pre.length : Int)) (dIdx x suf (pre.length : Int)) := by
  intro suf
  induction suf with
  | nil =>
    intro pre h
    refine ev_succ ?_
    simp only [spec_FindDevice.l0, if_neg (ixn h)]
    exact Ev.now _
  | cons a s ih =>
    intro pre h
    obtain ⟨h1, h2, h3, h4⟩ := ix h (by omega)
    refine ev_succ ?_
    simp only [spec_FindDevice.l0, if_pos h1, if_pos (nn _), Int.toNat_natCast, rd_T30, h2, h3]
    rw [dIdx]
    refine ev_ite (fun c => ?_) (fun c => ?_)
    · rw [if_pos c]; exact Ev.now _
    · rw [if_neg c]
      have := ih _ h4
      rwa [show ((pre ++ [a]).length : Int) = (pre.length : Int) + 1 by simp] at this ⊢
theorem spec_FindDevice_ev (l : List De) (x : ByteArray) (hl : l.length < 1099511627776) : Ev (fun k => spec_FindDevice.f k l x) (pFind l x) := spec_FindDevice_l0 l x hl l [] rfl
theorem impl_FindDevice_l0 (l : List De) (x : ByteArray) (hl : l.length < 1099511627776) : ∀ (suf pre : List De), l = pre ++ suf →
    Ev (fun k => impl_FindDevice.l0 k x l (l.length : Int) (pre.length : Int)) (dIdx x suf (pre.length : Int)) := by
  intro suf
  induction suf with
  | nil =>
    intro pre h
    refine ev_succ ?_
    simp only [impl_FindDevice.l0, if_neg (ixn h)]
    exact Ev.now _
  | cons a s ih =>
    intro pre h
    obtain ⟨h1, h2, h3, h4⟩ := ix h (by omega)
    refine ev_succ ?_
    simp only [impl_FindDevice.l0, if_pos h1, if_pos (nn _), Int.toNat_natCast, rd_T30, h2, h3]
    rw [dIdx]
    refine ev_ite (fun c => ?_) (fun c => ?_)
    · rw [if_pos c]; exact Ev.now _
    · rw [if_neg c]
      have := ih _ h4
      rwa [show ((pre ++ [a]).length : Int) = (pre.length : Int) + 1 by simp] at this ⊢
theorem impl_FindDevice_ev (l : List De) (x : ByteArray) (hl : l.length < 1099511627776) : Ev (fun k => impl_FindDevice.f k l x) (pFind l x) := impl_FindDevice_l0 l x hl l [] rfl
theorem laws_toDevice_eq (n : ByteArray) (k : Int) (l : ByteArray) (a b c d e : Int) : laws_toDevice.f n k l a b c d e = some (n, k, l, a, b, c, d, e) := rfl
def cvD (g : LDe) : De := ⟨g.f0, g.f1, g.f2, ⟨g.f3.f0, g.f3.f1⟩, g.f4, g.f5, g.f6⟩
theorem laws_toDeviceS_l0 (l : List LDe) (hl : l.length < 1099511627776) : ∀ (suf pre : List LDe), l = pre ++ suf →
    Ev (fun k => laws_toDeviceS.l0 k l (pre.map cvD ++ List.replicate suf.length z30) (pre.length : Int)) (l.map cvD) := by
  intro suf
  induction suf with
  | nil =>
    intro pre h
    refine ev_succ ?_
    simp only [laws_toDeviceS.l0, if_neg (ixn h)]
    simpa [h] using Ev.now (l.map cvD)
  | cons a t ih =>
    intro pre h
    obtain ⟨h1, h2, h3, h4⟩ := ix h (by omega)
    refine ev_succ ?_
    have h5 : (pre.length : Int) < ((pre.map cvD ++ List.replicate (a :: t).length z30).length : Int) := by simp; omega
    simp only [laws_toDeviceS.l0, if_pos h1, if_pos (nn _), laws_toDevice_eq, Option.bind_some, if_pos h5, Int.toNat_natCast, rd_T25, h2, h3]
    have := ih (pre ++ [a]) h4
    have hp : pre.length = (pre.map cvD).length := by simp
    rw [List.length_cons, List.replicate_succ, hp, set_app]
    simpa [cvD] using this
theorem laws_toDeviceS_ev (l : List LDe) (hl : l.length < 1099511627776) : Ev (fun k => laws_toDeviceS.f k l) (l.map cvD) := by
  have := laws_toDeviceS_l0 l hl l [] rfl
  simp only [laws_toDeviceS.f, if_pos (nn _), Int.toNat_natCast, if_pos (show l.length ≤ 3518437208883 by omega)]
  simpa using this
theorem laws_eqDevice_rfl (n : ByteArray) (k : Int) (l : ByteArray) (a b c d e : Int) : laws_eqDevice.f n k l a b c d e n k l a b c d e = some true := by simp [laws_eqDevice.f, laws_eqPlace_rfl]
theorem laws_eqDeviceS_l0 (x : List De) (hl : x.length < 1099511627776) : ∀ (d i : Nat), i + d = x.length → Ev (fun k => laws_eqDeviceS.l0 k x x (i : Int)) true := by
  intro d
  induction d with
  | zero =>
    intro i h
    refine ev_succ ?_
    simp only [laws_eqDeviceS.l0, if_neg (show ¬ ((i : Int) < (x.length : Int)) by omega)]
    exact Ev.now _
  | succ d ih =>
    intro i h
    refine ev_succ ?_
    simp only [laws_eqDeviceS.l0, if_pos (show ((i : Int) < (x.length : Int)) by omega), if_pos (nn _), laws_eqDevice_rfl, Option.bind_some, if_true]
    rw [show wrap64 ((i : Int) + 1) = ((i + 1 : Nat) : Int) by unfold wrap64; omega]
    exact ih (i + 1) (by omega)
theorem laws_eqDeviceS_rfl (x : List De) (hl : x.length < 1099511627776) : Ev (fun k => laws_eqDeviceS.f k x x) true := by
  simp only [laws_eqDeviceS.f, if_true]
  exact laws_eqDeviceS_l0 x hl x.length 0 (by omega)
theorem laws_szDevice_eq (n : ByteArray) (k : Int) (l : ByteArray) (a b c d e m : Int) (h0 : 0 ≤ m) (h1 : m ≤ 1048576) (hn : n.size ≤ maxLen) (hl : l.size ≤ maxLen) :
    ∃ r, r ≤ 1048576 ∧ laws_szDevice.f n k l a b c d e m = some r := by
  have hn' : (n.size : Int) ≤ 9223372036854775807 := by have : maxLen = 9223372036854775807 := rfl; omega
  have hl' : (l.size : Int) ≤ 9223372036854775807 := by have : maxLen = 9223372036854775807 := rfl; omega
  have hw : wrap64 (m - (n.size : Int)) = m - (n.size : Int) := by unfold wrap64; omega
  simp only [laws_szDevice.f, hw]
  by_cases c1 : m - (n.size : Int) < 0
  · exact ⟨-1, by omega, by rw [if_pos c1]⟩
  · rw [if_neg c1]
    have hw2 : wrap64 (m - (n.size : Int) - (l.size : Int)) = m - (n.size : Int) - (l.size : Int) := by unfold wrap64; omega
    rw [hw2]
    by_cases c2 : m - (n.size : Int) - (l.size : Int) < 0
    · exact ⟨-1, by omega, by rw [if_pos c2]⟩
    · exact ⟨m - (n.size : Int) - (l.size : Int), by omega, by rw [if_neg c2]⟩
theorem laws_szDeviceS_l0 (l : List LDe) (hl : l.length < 1099511627776) (hz : ∀ x ∈ l, x.f0.size ≤ maxLen ∧ x.f2.size ≤ maxLen) : ∀ (suf pre : List LDe) (n : Int), l = pre ++ suf → 0 ≤ n → n ≤ 1048576 →
    ∃ r, r ≤ 1048576 ∧ Ev (fun k => laws_szDeviceS.l0 k l n (pre.length : Int)) r := by
  intro suf
  induction suf with
  | nil =>
    intro pre n h h0 h1
    refine ⟨n, h1, ev_succ ?_⟩
    simp only [laws_szDeviceS.l0, if_neg (ixn h)]
    exact Ev.now _
  | cons a t ih =>
    intro pre n h h0 h1
    obtain ⟨g1, g2, g3, g4⟩ := ix h (by omega)
    have ha := hz a (by simp [h])
    obtain ⟨m, hm, em⟩ := laws_szDevice_eq a.f0 a.f1 a.f2 a.f3.f0 a.f3.f1 a.f4 a.f5 a.f6 n h0 h1 ha.1 ha.2
    by_cases hc : m < 0
    · refine ⟨-1, by omega, ev_succ ?_⟩
      simp only [laws_szDeviceS.l0, if_pos g1, if_pos (nn _), Int.toNat_natCast, rd_T25, g2, em, Option.bind_some, if_pos hc]
      exact Ev.now _
    · obtain ⟨r, hr, e⟩ := ih (pre ++ [a]) m g4 (by omega) (by omega)
      refine ⟨r, hr, ev_succ ?_⟩
      simp only [laws_szDeviceS.l0, if_pos g1, if_pos (nn _), Int.toNat_natCast, rd_T25, g2, g3, em, Option.bind_some, if_neg hc]
      exact e
theorem laws_szDeviceS_ev (l : List LDe) (n : Int) (hn : 0 ≤ n) (hn2 : n ≤ 1048576) (hl : l.length ≤ maxLen) (hz : ∀ x ∈ l, x.f0.size ≤ maxLen ∧ x.f2.size ≤ maxLen) :
    ∃ r, r ≤ 1048576 ∧ (0 ≤ r → l.length < 1099511627776) ∧ Ev (fun k => laws_szDeviceS.f k l n) r := by
  have hl' : (l.length : Int) ≤ 9223372036854775807 := by have : maxLen = 9223372036854775807 := rfl; omega
  by_cases hc : n - (l.length : Int) < 0
  · refine ⟨-1, by omega, by omega, ?_⟩
    simp only [laws_szDeviceS.f]
    rw [show wrap64 (n - (l.length : Int)) = n - (l.length : Int) by unfold wrap64; omega]
    simp only [if_pos hc]; exact Ev.now _
  · obtain ⟨r, hr, e⟩ := laws_szDeviceS_l0 l (by omega) hz l [] (n - (l.length : Int)) rfl (by omega) (by omega)
    refine ⟨r, hr, fun _ => by omega, ?_⟩
    simp only [laws_szDeviceS.f]
    rw [show wrap64 (n - (l.length : Int)) = n - (l.length : Int) by unfold wrap64; omega]
    simp only [if_neg hc]; exact e
theorem FnExactFindDevice : laws_FnExactFindDevice.Pure := by
  intro l n hm _ hx hn
  refine Ev.rounds ?_
  have hz : ∀ x ∈ l, x.f0.size ≤ maxLen ∧ x.f2.size ≤ maxLen := fun x h => ⟨(hx x h).1, (hx x h).2.2.1⟩
  obtain ⟨r, _, hr, e⟩ := laws_szDeviceS_ev l 1048576 (by omega) (by omega) hm hz
  unfold laws_FnExactFindDevice.f
  refine ev_ite (fun _ => Ev.now _) (fun h => ?_)
  refine Ev.bind e ?_
  refine ev_ite (fun _ => Ev.now _) (fun h => ?_)
  have hl := hr (by omega)
  have hl' : (l.map cvD).length < 1099511627776 := by simpa using hl
  refine Ev.bind (laws_toDeviceS_ev l hl) ?_
  refine Ev.bind (spec_FindDevice_ev _ n hl') ?_
  refine Ev.bind (laws_toDeviceS_ev l hl) ?_
  refine Ev.bind (impl_FindDevice_ev _ n hl') ?_
  simp only [if_true]
  refine Ev.bind (laws_toDeviceS_ev l hl) ?_
  refine Ev.bind (laws_eqDeviceS_rfl _ hl') ?_
  exact Ev.now _

end Go.Proofs.Ytkedcokhcgklpaa.Pure
