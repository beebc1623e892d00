-- Written by a program for this claim.
import Derived.Lib.Overlaps
import Derived.Lib.AppendZerosOnto
import Derived.Shelf.Spec.SlicesInsert
import Derived.Shelf.Abstract
import Derived.Lib.EndianMore
import Derived.Deep.RegionLaw
import Derived.Shelf.RegionOpenPlain
import Derived.Laws.IdiomCopy
import Derived.Laws.OwnMore
import Derived.Lib.SliceRun
import Derived.Test.YtkedcokhcgklpaaMFnRigx0
import Derived.Test.YtkedcokhcgklpaaMFnRigx2
import Derived.Test.YtkedcokhcgklpaaMFnRigx3
import Derived.Test.YtkedcokhcgklpaaMFnRigx4
import Derived.Test.YtkedcokhcgklpaaMFnRigx5
namespace Go.Proofs.Ytkedcokhcgklpaa.MFnRig
open Go.RowKit Go.Proofs.YtkedcokhcgklpaaW.PrintWords Go.Proofs.YtkedcokhcgklpaaW.PrintLast Go.Proofs.YtkedcokhcgklpaaW.PrintMore
attribute [local go_sem] max2_int min2_int max_two min_two max_three min_three max_four min_four   -- for this text's walks alone
set_option linter.unusedVariables false
set_option linter.unusedSimpArgs false

theorem s6_0 {p : Prop} (h : p := by repeat (first | (with_reducible first | exact HB.out | apply below_alloc | apply pw_below_drewN | apply below_drew1 | refine below_set ?_ GE165.out) | exact HB.out)) : p := h
theorem s6_1 {p : Prop} (h : p := by repeat (first | (with_reducible first | exact HBW.out | apply below_alloc | apply pw_below_drewN | apply below_drew1) | exact HBW.out)) : p := h
theorem s6_2 {p : Prop} (h : p := by repeat (first | (with_reducible first | exact HB.out | apply below_alloc | apply pw_below_drewN | apply below_drew1) | exact HB.out)) : p := h
theorem y6_0 {p : Prop} (h : p := by repeat (first | exact (Kd.C_below HR0.out HB.out) | (with_reducible refine Kd.C_alloc ?_ _) | (with_reducible refine Kd.C_drewN ?_ _) | (with_reducible refine Kd.C_drew ?_))) : p := h
theorem u6_0 {p : Prop} (h : p := by repeat (first | (with_reducible first | exact HB.out | apply below_alloc | apply pw_below_drewN | apply below_drew1 | refine below_set ?_ GE165.out) | exact HB.out)) : p := h
theorem u6_1 {p : Prop} (h : p := by (with_reducible repeat (first | refine blk_drewN ?_ _ | refine blk_drew ?_ | refine blk_alloc ?_ _)); exact BK165.out) : p := h
theorem u6_2 {p : Prop} (h : p := by (with_reducible repeat (first | apply Kd.R_alloc | apply Kd.R_drewN | apply Kd.R_drew)); exact HO168.out) : p := h
theorem u6_3 {p : Prop} (h : p := by (with_reducible repeat (first | apply Kd.R_alloc | apply Kd.R_drewN | apply Kd.R_drew)); exact HO_6.out) : p := h
theorem u6_4 {p : Prop} (h : p := by repeat (first | (with_reducible first | exact HB.out | apply below_alloc | apply pw_below_drewN | apply below_drew1) | exact HB.out)) : p := h
theorem u6_5 {p : Prop} (h : p := by first | rfl | (simp; done) | (simp [*]; done)) : p := h
theorem u6_6 {p : Prop} (h : p := by repeat (first | (with_reducible first | exact HBW.out | apply below_alloc | apply pw_below_drewN | apply below_drew1) | exact HBW.out)) : p := h
theorem u6_7 {p : Prop} (h : p := by (with_reducible repeat (first | apply Kd.R_alloc | apply Kd.R_drewN | apply Kd.R_drew)); exact HO182.out) : p := h
theorem u6_8 {p : Prop} (h : p := by (with_reducible repeat (first | apply Kd.R_alloc | apply Kd.R_drewN | apply Kd.R_drew)); exact HO176.out) : p := h
theorem run_copy_k {P : Program} (w : World) (dT sT ty elem : TypeId) (k b o dLen dCap : Nat) (a : Addr) (sLen sCap n : Nat) (cs : List Value)
  (hu : P.underlying dT = some (.slice elem)) (hs : (P.info? elem).map (·.size) = some k) (hn : n = Nat.min sLen dLen) (hcl : cs.length = n * k)
  (hsrc : ∀ j v, cs[j]? = some v → w.cell? (a.add j) = some v) (hc : ∀ j, j < cs.length → (w.cell? ⟨b, o + j, none⟩).isSome = true) (hf : ∀ j, j < cs.length → w.frozen? ⟨b, o + j, none⟩ = false) (h1 : ∀ v ∈ cs, v.oneCell' = true) :
  (Builtin.copy_ #[dT, sT] ty #[.slice (some ⟨b, o, none⟩) dLen dCap, .slice (some a) sLen sCap]).run P w = .ok (goInt n) (w.setCells b o cs) := by
 have hl := run_loadCells_list (P := P) w a cs hsrc
 rw [hcl] at hl
 have hst := run_storeCells_cells (P := P) b o cs 0 w (by simpa using hc) (by simpa using hf) h1
 cases hq : P.info? elem with
 | none => simp [hq] at hs
 | some i =>
  have hi : i.size = k := by simpa [hq] using hs
  simp [Builtin.copy_, run_underlying hu, Builtin.lenOf, Builtin.firstCells, sizeOf, typeInfo, hq, hi, ← hn, hl, hst]
theorem own_more {base : Nat} {e : TypeId} {size g n cap : Nat} {xs : List Value} {w : World} (h : w.ownsRow base e size (.slice (some ⟨g, 0, none⟩) n cap) n xs) (hr : n < cap) :
  ∃ ys : List Value, ys.length = size ∧ w.ownsRow base e size (.slice (some ⟨g, 0, none⟩) (n + 1) cap) (n + 1) (xs ++ ys) := by
 rcases h.2 with ⟨h', _⟩ | ⟨g', cap', cur, h', hb, hg, hnc', hcm, hcs, htake⟩
 ·simp at h'
 ·simp only [Value.slice.injEq, Option.some.injEq, Addr.mk.injEq, and_true, true_and] at h'
  obtain ⟨rfl, rfl⟩ := h'
  have hle : (n + 1) * size ≤ cap * size := Nat.mul_le_mul_right _ hr
  have hadd : (n + 1) * size = n * size + size := by rw [Nat.add_mul, Nat.one_mul]
  have hl : cur.toList.length = cap * size := by rw [Array.length_toList, hcs]
  refine ⟨(cur.toList.drop (n * size)).take size, by rw [List.length_take, List.length_drop, hl]; omega, ?_, .inr ⟨g, cap, cur, rfl, hb, hg, hr, hcm, hcs, ?_⟩⟩
  ·rw [List.length_append, h.1, List.length_take, List.length_drop, hl]; omega
  ·rw [hadd, List.take_add, htake]
theorem own_shape {base : Nat} {e : TypeId} {size g n cap : Nat} {xs : List Value} {w : World} (h : w.ownsRow base e size (.slice (some ⟨g, 0, none⟩) n cap) n xs) : w.shape? g = some (e, cap * size) := by
 rcases h.2 with ⟨h', _⟩ | ⟨g', cap', cur, h', hb, hg, hnc', hcm, hcs, htake⟩
 ·simp at h'
 ·simp only [Value.slice.injEq, Option.some.injEq, Addr.mk.injEq, and_true, true_and] at h'
  obtain ⟨rfl, rfl⟩ := h'
  simp [World.shape?, hg, hcs]
theorem own_cap {base : Nat} {e : TypeId} {size g n cap : Nat} {xs : List Value} {w : World} (h : w.ownsRow base e size (.slice (some ⟨g, 0, none⟩) n cap) n xs) : n ≤ cap ∧ cap ≤ 9223372036854775807 := by
 rcases h.2 with ⟨h', _⟩ | ⟨g', cap', cur, h', hb, hg, hnc', hcm, hcs, htake⟩
 ·simp at h'
 ·simp only [Value.slice.injEq, Option.some.injEq, Addr.mk.injEq, and_true, true_and] at h'
  obtain ⟨rfl, rfl⟩ := h'
  exact ⟨hnc', hcm⟩
set_option maxHeartbeats 8000000 in
set_option maxRecDepth 100000 in
theorem ins_room (g i n cap base vb vc : Nat) (xs vs : List Value) (w : World) (hown : w.ownsRow base 30 8 (.slice (some ⟨g, 0, none⟩) n cap) n xs) (hi : i < n) (hroom : n + 1 ≤ cap) (h1 : ∀ u ∈ xs, u.oneCell' = true)
  (hvl : vs.length = 8) (h1v : ∀ u ∈ vs, u.oneCell' = true) (hvs : ∀ t u, vs[t]? = some u → w.cell? ⟨vb, t, none⟩ = some u) (hvb : vb ≠ g) (tA : TypeId) (kA : Nat) (hsa : w.shape? vb = some (tA, kA))
  (hfa : w.frozen? ⟨vb, 0, none⟩ = false) (hfe : w.frozen? ⟨vb, kA, none⟩ = false) :
  Calls Try.prog 76 #[.slice (some ⟨g, 0, none⟩) n cap, .int .i64 (i : Int), .slice (some ⟨vb, 0, none⟩) 1 vc] w fun e w' => e = .returned (.slice (some ⟨g, 0, none⟩) (n + 1) cap) ∧ w'.ownsRow base 30 8 (.slice (some ⟨g, 0, none⟩) (n + 1) cap) (n + 1) (xs.take (i * 8) ++ vs ++ xs.drop (i * 8)) ∧ Below base w w' := by
 have hu := Try.underlying30
 have hlen : xs.length = n * 8 := hown.1
 have hsb := own_shape hown
 have hbg : base ≤ g := (hown.lt g rfl).1
 obtain ⟨ys, hyl, hown2⟩ := own_more hown hroom
 obtain ⟨inf, hinf, hz0, hsz, _⟩ := info_parts info30
 have hszm : (Try.prog.info? 30).map (·.size) = some 8 := by rw [hinf]; simp [hsz]
 have HO := Aside0.mk hown2.drew
 clear hown2 hown
 have hov : ∀ lb cb, (callFunc 94 #[.slice (some ⟨vb, 0, none⟩) 1 vc, .slice (some ⟨g, (i + 1) * 8, none⟩) lb cb]).run Try.prog w = .ok (.value (.bool false)) w := fun lb cb => by
  rw [run_callFunc_extern Try.func94 (by kernel_rfl) (by kernel_rfl) (by kernel_rfl) (e := Extern.SlicesOverlaps.overlaps #[36, 36] #[4]) (by kernel_rfl),
   Lib.run_overlaps_apart w 36 4 30 Try.underlying36 8 Try.sizeOf30 ⟨vb, 0, none⟩ ⟨g, (i + 1) * 8, none⟩ 1 vc lb cb hvb tA 30 kA (cap * 8) hsa hsb (by omega) hfa hfe]
  rfl
 have hd : (xs.drop (i * 8)).length = (n - i) * 8 := by rw [List.length_drop, hlen, Nat.sub_mul]
 have hcp1 : ∀ ty dc sc, (Builtin.copy_ #[36, 36] ty #[.slice (some ⟨g, (i + 1) * 8, none⟩) (n - i) dc, .slice (some ⟨g, i * 8, none⟩) (n + 1 - i) sc]).run Try.prog w.drew = .ok (goInt ((n - i : Nat) : Int)) (w.drew.setCells g ((i + 1) * 8) (xs.drop (i * 8))) := fun ty dc sc =>
  run_copy_k w.drew 36 36 ty 30 8 g ((i + 1) * 8) (n - i) dc ⟨g, i * 8, none⟩ (n + 1 - i) sc (n - i) (xs.drop (i * 8)) Try.underlying36 hszm (by simp only [Nat.min_def]; split <;> omega) hd
   (fun j v hj => by
    have hjl : j < (xs.drop (i * 8)).length := (List.getElem?_eq_some_iff.1 hj).1
    rw [hd] at hjl
    rw [Addr.add_lit, HO.out.cellAt (i * 8 + j) (by omega), List.getElem?_append_left (by omega)]
    rwa [List.getElem?_drop] at hj)
   (fun j hj => by
    rw [hd] at hj
    rw [HO.out.cellAt _ (by omega), List.getElem?_eq_getElem (by rw [List.length_append]; omega)]; rfl)
   (fun j _ => HO.out.frozenAt _) (fun v hv => h1 v (List.mem_of_mem_drop hv))
 obtain ⟨W1, hW1⟩ : ∃ W1, W1 = w.drew.setCells g ((i + 1) * 8) (xs.drop (i * 8)) := ⟨_, rfl⟩
 have hl2 : (xs ++ ys).length = (n + 1) * 8 := HO.out.1
 have ho1 : Aside0 (W1.ownsRow base 30 8 (.slice (some ⟨g, 0, none⟩) (n + 1) cap) (n + 1) ((xs ++ ys).take ((i + 1) * 8) ++ xs.drop (i * 8) ++ (xs ++ ys).drop ((i + 1) * 8 + (xs.drop (i * 8)).length))) := ⟨by
  rw [hW1]
  exact own_setCells_in _ _ _ _ HO.out (by rw [hd, hl2]; omega)⟩
 have hcp2 : ∀ (W : World), (∀ x, W.cell? x = W1.cell? x) → (∀ x, W.frozen? x = W1.frozen? x) → ∀ ty dc, (Builtin.copy_ #[36, 36] ty #[.slice (some ⟨g, i * 8, none⟩) (n + 1 - i) dc, .slice (some ⟨vb, 0, none⟩) 1 vc]).run Try.prog W = .ok (goInt 1) (W.setCells g (i * 8) vs) := fun W hWc hWf ty dc =>
  run_copy_k W 36 36 ty 30 8 g (i * 8) (n + 1 - i) dc ⟨vb, 0, none⟩ 1 vc 1 vs Try.underlying36 hszm (by simp only [Nat.min_def]; split <;> omega) (by omega)
   (fun j v hj => by
    rw [Addr.add_lit, hWc, hW1, World.cell?_setCells_out g _ _ _ _ (fun h _ => absurd h hvb), Nat.zero_add]
    exact hvs j v hj)
   (fun j hj => by
    rw [hvl] at hj
    rw [hWc, ho1.out.cellAt _ (by omega), List.getElem?_eq_getElem (by rw [ho1.out.1]; omega)]; rfl)
   (fun j _ => by rw [hWf]; exact ho1.out.frozenAt _) h1v
 rw [← hW1] at hcp1
 have ho2 := own_setCells_in vs (i * 8) _ _ ho1.out (by rw [ho1.out.1, hvl]; omega)
 have hfin : Aside0 ((W1.setCells g (i * 8) vs).ownsRow base 30 8 (.slice (some ⟨g, 0, none⟩) (n + 1) cap) (n + 1) (xs.take (i * 8) ++ vs ++ xs.drop (i * 8)) ∧ Below base w (W1.setCells g (i * 8) vs)) := ⟨by
  refine ⟨?_, ?_⟩
  ·have e1 : (xs ++ ys).take ((i + 1) * 8) ++ xs.drop (i * 8) ++ (xs ++ ys).drop ((i + 1) * 8 + (xs.drop (i * 8)).length) = (xs ++ ys).take ((i + 1) * 8) ++ xs.drop (i * 8) := by
    have hdn : (xs ++ ys).drop ((i + 1) * 8 + (xs.drop (i * 8)).length) = [] := List.drop_eq_nil_of_le (by rw [hd, hl2]; omega)
    rw [hdn, List.append_nil]
   rw [e1] at ho2
   have hA : ((xs ++ ys).take ((i + 1) * 8)).length = (i + 1) * 8 := by rw [List.length_take, hl2]; omega
   have e2 : ((xs ++ ys).take ((i + 1) * 8) ++ xs.drop (i * 8)).take (i * 8) = xs.take (i * 8) := by
    rw [List.take_append_of_le_length (by omega), List.take_take, Nat.min_eq_left (by omega), List.take_append_of_le_length (by omega)]
   have e3 : ((xs ++ ys).take ((i + 1) * 8) ++ xs.drop (i * 8)).drop (i * 8 + vs.length) = xs.drop (i * 8) := by
    exact (congrArg (fun n_ => List.drop n_ _) (show i * 8 + vs.length = ((xs ++ ys).take ((i + 1) * 8)).length by rw [hA, hvl]; omega)).trans List.drop_left
   rw [e2, e3] at ho2
   exact ho2
  ·rw [hW1]
   exact (below_drew1 (Below.refl base w)).trans ((Lib.below_setCells_w hbg _ _ _).trans (Lib.below_setCells_w hbg _ _ _))⟩
 have hb0 := own_cap HO.out
 have hcap : cap ≤ 9223372036854775807 := hb0.2
 have hz1 : ¬ ((i : Int) = (n : Int)) := by omega
 have hz1b : ((i : Int) == (n : Int)) = false := beq_eq_false_iff_ne.2 hz1
 have hz3 : ¬ ((cap : Int) < (n : Int) + 1) := by omega
 have hb1 : (0 : Int) ≤ (i : Int) + 1 := by omega
 have hin : i ≤ n := by omega
 have htn : ((i : Int) + 1).toNat = i + 1 := by omega
 have hb2 : ¬ (cap = i + 1) := by omega
 have hb3 : (i : Int) ≤ (n : Int) + 1 := by omega
 have hb4 : ¬ (cap = i) := by omega
 have HC1 := Aside0.mk hcp1
 have HC2 := Aside0.mk hcp2
 clear hcp1 hcp2 ho2 ho1 hd hlen hl2 h1 h1v hvs hvl hsz hz0 hinf hszm HO hsb hsa hfa hfe hbg hb0 hyl
 subst hW1
 have hw2 : IntKind.i64.wrap ((i : Int) + 1) = (i : Int) + 1 := by rw [IntKind.wrap_i64]; omega
 have hwn : wrap64 ((n : Int) + 1) = (n : Int) + 1 := by unfold wrap64; omega
 have hw1 : wrap64 ((i : Int) + 1) = (i : Int) + 1 := by unfold wrap64; omega
 have mixed : Try.prog.follows Departure.mixedOrders = true := by first | rfl | kernel_rfl
 go_enter Try.func76, Try.ntmps76
 go_wp2_with (simp only [hov])
 go_region_law_o (refine step_copy_runI rfl _ _ 36 36 rfl (.slice (some ⟨g, (i + 1) * 8, none⟩) (n - i) (cap - (i + 1))) (.slice (some ⟨g, i * 8, none⟩) (n + 1 - i) (cap - i)) (by simp [Act.eval, Act.put]) (by simp [Act.eval, Act.put]) (HC1.out _ _ _) ?_)
 go_wp2_with (rw [HC2.out _ (fun _ => rfl) (fun _ => rfl)])
 go_ret
 exact ⟨rfl, hfin.out.1, hfin.out.2⟩
set_option maxHeartbeats 8000000 in
set_option maxRecDepth 100000 in
theorem ins_end (n base vb vc : Nat) (v : Value) (A : Option Addr) (cap : Nat) (xs vs : List Value) (w : World) (hv : v = .slice A n cap) (hown : w.ownsRow base 30 8 v n xs) (hnc : n ≤ cap) (hb : base ≤ w.heap.size) (hbig : n ≤ 1000)
  (hvl : vs.length = 8) (h1v : ∀ u ∈ vs, u.oneCell' = true) (hvs : ∀ t u, vs[t]? = some u → w.cell? ⟨vb, t, none⟩ = some u) :
  Calls Try.prog 76 #[.slice A n cap, .int .i64 (n : Int), .slice (some ⟨vb, 0, none⟩) 1 vc] w fun e w' => ∃ v1, e = .returned v1 ∧ w'.ownsRow base 30 8 v1 (n + 1) (xs ++ vs) ∧ Below base w w' := by
 have hu := Try.underlying30
 obtain ⟨inf, hinf, hz0, hsz, hby⟩ := info_parts info30
 subst hv
 have HO := Aside0.mk hown
 clear hown
 have b1 : decide (0 ≤ (n : Int)) = true := decide_eq_true (Int.natCast_nonneg n)
 have hnc' : (n : Int) ≤ (cap : Int) := by omega
 go_enter Try.func76, Try.ntmps76
 go_wp2_with (at_builtin; refine wpList_append_own _ rfl _ _ 36 rfl base 30 inf _ 8 80 Try.underlying36 hinf hz0 hsz hby rfl (by omega) (.slice A n cap) n xs rfl HO.out ⟨vb, 0, none⟩ 1 vc vs rfl (by omega) (fun j u hj => by rw [Addr.add_lit, Nat.zero_add]; exact hvs j u hj) h1v (by simp only [maxLen]; omega) (by omega) hb ?_; intro v1 w1 ho1 hg1 _)
 all_goals (go_ret; exact ⟨_, rfl, ho1, (Below.refl base w).grown hg1 hb (fun k hk => (HO.out.lt k hk).1)⟩)
theorem w64_id (x : Int) (h0 : -9223372036854775808 ≤ x) (h1 : x ≤ 9223372036854775807) : wrap64 x = x := by unfold wrap64; omega
theorem zeroCells_size (c : Array Value) (k : Nat) : (Builtin.zeroCells c k).size = k * c.size := by simp [Builtin.zeroCells]
set_option maxHeartbeats 8000000 in
set_option maxRecDepth 100000 in
theorem ins_grow (g i n cap base vb vc : Nat) (xs vs : List Value) (w : World) (hown : w.ownsRow base 30 8 (.slice (some ⟨g, 0, none⟩) n cap) n xs) (hi : i < n) (hnc : n ≤ cap) (hroom : cap < n + 1) (hb : base ≤ w.heap.size) (hbig : n ≤ 1000) (h1 : ∀ u ∈ xs, u.oneCell' = true)
  (hvl : vs.length = 8) (h1v : ∀ u ∈ vs, u.oneCell' = true) (hvs : ∀ t u, vs[t]? = some u → w.cell? ⟨vb, t, none⟩ = some u) (hvw : vb < w.heap.size) :
  Calls Try.prog 76 #[.slice (some ⟨g, 0, none⟩) n cap, .int .i64 (i : Int), .slice (some ⟨vb, 0, none⟩) 1 vc] w fun e w' => ∃ v1, e = .returned v1 ∧ w'.ownsRow base 30 8 v1 (n + 1) (xs.take (i * 8) ++ vs ++ xs.drop (i * 8)) ∧ Below base w w' := by
 have hu := Try.underlying30
 have hlen : xs.length = n * 8 := hown.1
 have hgw : g < w.heap.size := (hown.lt g rfl).2
 obtain ⟨inf, hinf, hz0, hsz, hby⟩ := info_parts info30
 have hszm : (Try.prog.info? 30).map (·.size) = some 8 := by rw [hinf]; simp [hsz]
 have HO := Aside0.mk hown
 clear hown
 have hz1 : ¬ ((i : Int) = (n : Int)) := by omega
 have hz3 : (cap : Int) < (n : Int) + 1 := by omega
 have hkk : (n : Int) + 1 - (i : Int) = ((n + 1 - i : Nat) : Int) := by omega
 have hik : i + (n + 1 - i) = n + 1 := by omega
 have htl : (xs.take (i * 8)).length = i * 8 := by rw [List.length_take, hlen]; omega
 have hold : (Builtin.firstCells inf.size i (.slice (some ⟨g, 0, none⟩) i cap)).run Try.prog w.drew = .ok (xs.take (i * 8)).toArray w.drew := by
  rw [hsz]
  exact run_firstCells_some w.drew 8 i ⟨g, 0, none⟩ i cap (xs.take (i * 8)) (by rw [htl]) (fun j v hj => by
   rw [Addr.add_lit, Nat.zero_add]
   have hjl : j < (xs.take (i * 8)).length := (List.getElem?_eq_some_iff.1 hj).1
   rw [htl] at hjl
   rw [HO.out.drew.cellAt j (by omega)]
   rw [List.getElem?_take, if_pos hjl] at hj
   exact hj)
 have hrz : ∀ ty, (Builtin.append_ #[36, 3] ty #[.slice (some ⟨g, 0, none⟩) i cap, .int .i64 ((n : Int) + 1 - (i : Int))]).run Try.prog w =
   .ok (.slice (some ⟨w.heap.size, 0, none⟩) (n + 1) (grownCap w (n + 1) cap 30)) (w.drew.alloc (.cells ((xs.take (i * 8)).toArray ++ Builtin.zeroCells (Value.cells (.agg #[(.string ⟨#[]⟩), (.int .i64 0), (.string ⟨#[]⟩), (.int .i64 0), (.int .i64 0), (.int .i64 0), (.int .i64 0), (.int .i64 0)])) (n + 1 - i) ++ Builtin.zeroCells (Value.cells (.agg #[(.string ⟨#[]⟩), (.int .i64 0), (.string ⟨#[]⟩), (.int .i64 0), (.int .i64 0), (.int .i64 0), (.int .i64 0), (.int .i64 0)])) (grownCap w (n + 1) cap 30 - (n + 1))) 30)) := fun ty => by
  have h := Lib.run_append_grow_zeros w 36 3 ty 30 inf _ .i64 .i64 Try.underlying36 Try.underlying3 hinf hz0 (some ⟨g, 0, none⟩) i cap (xs.take (i * 8)) hold (n + 1 - i) (by omega) (by omega) (by omega) (by omega) (by rw [hby]; omega) (by rw [hby, hik]; exact growslice_fits hroom (by omega))
  rw [hik] at h
  rw [hkk]
  exact h
 have hGn : n + 1 ≤ grownCap w (n + 1) cap 30 := grownCap_ge w _ _ _
 have hG63 : grownCap w (n + 1) cap 30 ≤ maxLen := grownCap_le_maxLen w (n + 1) cap 30 (by unfold maxLen; omega)
 obtain ⟨G, hG⟩ : ∃ G, G = grownCap w (n + 1) cap 30 := ⟨_, rfl⟩
 rw [← hG] at hrz hGn hG63
 have hZs : (Value.cells (.agg #[(.string ⟨#[]⟩), (.int .i64 0), (.string ⟨#[]⟩), (.int .i64 0), (.int .i64 0), (.int .i64 0), (.int .i64 0), (.int .i64 0)])).size = 8 := rfl
 obtain ⟨ROW, hROW⟩ : ∃ ROW : Array Value, ROW = (xs.take (i * 8)).toArray ++ Builtin.zeroCells (Value.cells (.agg #[(.string ⟨#[]⟩), (.int .i64 0), (.string ⟨#[]⟩), (.int .i64 0), (.int .i64 0), (.int .i64 0), (.int .i64 0), (.int .i64 0)])) (n + 1 - i) ++ Builtin.zeroCells (Value.cells (.agg #[(.string ⟨#[]⟩), (.int .i64 0), (.string ⟨#[]⟩), (.int .i64 0), (.int .i64 0), (.int .i64 0), (.int .i64 0), (.int .i64 0)])) (G - (n + 1)) := ⟨_, rfl⟩
 rw [← hROW] at hrz
 have hRs : ROW.size = G * 8 := by
  rw [hROW]
  rw [Array.size_append, Array.size_append, zeroCells_size, zeroCells_size, hZs, List.size_toArray, htl]
  omega
 have hRt : ROW.toList.take (i * 8) = xs.take (i * 8) := by
  rw [hROW]
  simp only [Array.toList_append, List.append_assoc]
  rw [List.take_append_of_le_length (by omega), List.take_of_length_le (by omega)]
 obtain ⟨W1, hW1⟩ : ∃ W1, W1 = w.drew.alloc (.cells ROW 30) := ⟨_, rfl⟩
 rw [← hW1] at hrz
 have ho1 : Aside0 (W1.ownsRow base 30 8 (.slice (some ⟨w.heap.size, 0, none⟩) (n + 1) G) (n + 1) (ROW.toList.take ((n + 1) * 8))) := ⟨by
  rw [hW1]
  exact ⟨by rw [List.length_take, Array.length_toList, hRs]; omega, .inr ⟨w.heap.size, G, ROW, rfl, hb, heap_alloc_new w.drew _, hGn, hG63, hRs, rfl⟩⟩⟩
 have hOv : ∀ j v, w.cell? ⟨vb, j, none⟩ = some v → W1.cell? ⟨vb, j, none⟩ = some v := fun j v h => by rw [hW1, World.cell?_alloc_past (w := w.drew) _ vb j hvw]; exact h
 have hOg : ∀ j v, w.cell? ⟨g, j, none⟩ = some v → W1.cell? ⟨g, j, none⟩ = some v := fun j v h => by rw [hW1, World.cell?_alloc_past (w := w.drew) _ g j hgw]; exact h
 have hcpA : ∀ (W : World), (∀ x, W.cell? x = W1.cell? x) → (∀ x, W.frozen? x = W1.frozen? x) → ∀ ty dc, (Builtin.copy_ #[36, 36] ty #[.slice (some ⟨w.heap.size, i * 8, none⟩) (n + 1 - i) dc, .slice (some ⟨vb, 0, none⟩) 1 vc]).run Try.prog W = .ok (goInt 1) (W.setCells w.heap.size (i * 8) vs) := fun W hWc hWf ty dc =>
  run_copy_k W 36 36 ty 30 8 w.heap.size (i * 8) (n + 1 - i) dc ⟨vb, 0, none⟩ 1 vc 1 vs Try.underlying36 hszm (by simp only [Nat.min_def]; split <;> omega) (by omega)
   (fun j v hj => by rw [Addr.add_lit, hWc, Nat.zero_add]; exact hOv _ v (hvs j v hj))
   (fun j hj => by
    rw [hvl] at hj
    rw [hWc, ho1.out.cellAt _ (by omega), List.getElem?_eq_getElem (by rw [ho1.out.1]; omega)]; rfl)
   (fun j _ => by rw [hWf]; exact ho1.out.frozenAt _) h1v
 have hd : (xs.drop (i * 8)).length = (n - i) * 8 := by rw [List.length_drop, hlen, Nat.sub_mul]
 have ho2 : Aside0 ((W1.setCells w.heap.size (i * 8) vs).ownsRow base 30 8 (.slice (some ⟨w.heap.size, 0, none⟩) (n + 1) G) (n + 1) ((ROW.toList.take ((n + 1) * 8)).take (i * 8) ++ vs ++ (ROW.toList.take ((n + 1) * 8)).drop (i * 8 + vs.length))) := ⟨own_setCells_in _ _ _ _ ho1.out (by rw [ho1.out.1, hvl]; omega)⟩
 have hcpB : ∀ (W : World), (∀ x, W.cell? x = (W1.setCells w.heap.size (i * 8) vs).cell? x) → (∀ x, W.frozen? x = (W1.setCells w.heap.size (i * 8) vs).frozen? x) → ∀ ty dc sc, (Builtin.copy_ #[36, 36] ty #[.slice (some ⟨w.heap.size, (i + 1) * 8, none⟩) (n - i) dc, .slice (some ⟨g, i * 8, none⟩) (n - i) sc]).run Try.prog W = .ok (goInt ((n - i : Nat) : Int)) (W.setCells w.heap.size ((i + 1) * 8) (xs.drop (i * 8))) := fun W hWc hWf ty dc sc =>
  run_copy_k W 36 36 ty 30 8 w.heap.size ((i + 1) * 8) (n - i) dc ⟨g, i * 8, none⟩ (n - i) sc (n - i) (xs.drop (i * 8)) Try.underlying36 hszm (by simp only [Nat.min_def]; split <;> omega) hd
   (fun j v hj => by
    have hjl : j < (xs.drop (i * 8)).length := (List.getElem?_eq_some_iff.1 hj).1
    rw [hd] at hjl
    rw [Addr.add_lit, hWc, World.cell?_setCells_out _ _ _ _ _ (fun h _ => absurd h (by show ¬ g = w.heap.size; omega))]
    refine hOg _ v ?_
    rw [HO.out.cellAt _ (by omega)]
    rwa [List.getElem?_drop] at hj)
   (fun j hj => by
    rw [hd] at hj
    rw [hWc, ho2.out.cellAt _ (by omega), List.getElem?_eq_getElem (by rw [ho2.out.1]; omega)]; rfl)
   (fun j _ => by rw [hWf]; exact ho2.out.frozenAt _) (fun v hv => h1 v (List.mem_of_mem_drop hv))
 have hGi : ¬ (G = i) := by omega
 have hGim : ¬ (G = i + 1) := by omega
 have hci : ¬ (cap = i) := by omega
 have ho3 := own_setCells_in (xs.drop (i * 8)) ((i + 1) * 8) _ _ ho2.out.drew (by rw [ho2.out.1, hd]; omega)
 have hRl : (ROW.toList.take ((n + 1) * 8)).length = (n + 1) * 8 := ho1.out.1
 have e0 : (ROW.toList.take ((n + 1) * 8)).take (i * 8) = xs.take (i * 8) := by rw [List.take_take, Nat.min_eq_left (by omega)]; exact hRt
 have eL : (xs.take (i * 8) ++ vs).length = (i + 1) * 8 := by rw [List.length_append, htl, hvl]; omega
 rw [e0] at ho3
 have e1 : ∀ D : List Value, (xs.take (i * 8) ++ vs ++ D).take ((i + 1) * 8) = xs.take (i * 8) ++ vs := fun D => (congrArg (fun n_ => List.take n_ _) eL.symm).trans List.take_left
 have e2 : (xs.take (i * 8) ++ vs ++ (ROW.toList.take ((n + 1) * 8)).drop (i * 8 + vs.length)).drop ((i + 1) * 8 + (xs.drop (i * 8)).length) = [] := List.drop_eq_nil_of_le (by rw [List.length_append, eL, List.length_drop, hRl, hd, hvl]; omega)
 rw [e1, e2, List.append_nil] at ho3
 have HB : Aside0 (Below base w (((W1.setCells w.heap.size (i * 8) vs).drew).setCells w.heap.size ((i + 1) * 8) (xs.drop (i * 8)))) := ⟨by
  rw [hW1]
  exact (below_drew1 (((below_drew1 (Below.refl base w)).alloc hb _).trans (Lib.below_setCells_w hb _ _ _))).trans (Lib.below_setCells_w hb _ _ _)⟩
 have HO3 := Aside0.mk ho3
 clear ho3
 subst hW1
 have hE1 : ∀ x, ((w.alloc (.cells ROW 30)).drew).cell? x = (w.drew.alloc (.cells ROW 30)).cell? x := fun x => rfl
 have hE2 : ∀ x, ((w.alloc (.cells ROW 30)).drew).frozen? x = (w.drew.alloc (.cells ROW 30)).frozen? x := fun x => rfl
 have hF1 : ∀ x, (((w.alloc (.cells ROW 30)).drew.setCells w.heap.size (i * 8) vs).drew).cell? x = ((w.drew.alloc (.cells ROW 30)).setCells w.heap.size (i * 8) vs).cell? x := fun x => rfl
 have hF2 : ∀ x, (((w.alloc (.cells ROW 30)).drew.setCells w.heap.size (i * 8) vs).drew).frozen? x = ((w.drew.alloc (.cells ROW 30)).setCells w.heap.size (i * 8) vs).frozen? x := fun x => rfl
 have hb1 : (0 : Int) ≤ (i : Int) + 1 := by omega
 have hin : i ≤ n := by omega
 have htn : ((i : Int) + 1).toNat = i + 1 := by omega
 have hb3 : (i : Int) ≤ (n : Int) := by omega
 have hG63' : G ≤ 9223372036854775807 := hG63
 have HCA := Aside0.mk hcpA
 have HCB := Aside0.mk hcpB
 have HRZ := Aside0.mk hrz
 clear hvl hvw hgw hb hkk hik hold hROW hG hG63 hcpA hcpB hrz hOv hOg HO hRs hRt hvs h1 h1v ho1 ho2 hd htl hZs hszm hsz hby hz0 hinf hlen hRl e0 eL e1 e2
 obtain ⟨hw2, hwn, hwk, hw1⟩ : IntKind.i64.wrap ((i : Int) + 1) = (i : Int) + 1 ∧ wrap64 ((n : Int) + 1) = (n : Int) + 1 ∧ wrap64 ((n : Int) + 1 - (i : Int)) = (n : Int) + 1 - (i : Int) ∧ wrap64 ((i : Int) + 1) = (i : Int) + 1 :=
  ⟨by rw [IntKind.wrap_i64]; omega, w64_id _ (by omega) (by omega), w64_id _ (by omega) (by omega), w64_id _ (by omega) (by omega)⟩
 have mixed : Try.prog.follows Departure.mixedOrders = true := by first | rfl | kernel_rfl
 go_enter Try.func76, Try.ntmps76
 go_wp2_with (first
  | (at_builtin; refine Lib.wpList_append_run _ rfl _ _ _ _ rfl _ _ rfl rfl _ _ (HRZ.out _) ?_)
  | (rw [HCA.out _ hE1 hE2]))
 go_region_law_o (refine step_copy_runI rfl _ _ 36 36 rfl (.slice (some ⟨w.heap.size, (i + 1) * 8, none⟩) (n - i) (G - (i + 1))) (.slice (some ⟨g, i * 8, none⟩) (n - i) (cap - i)) (by simp [Act.eval, Act.put]) (by simp [Act.eval, Act.put]) (HCB.out _ hF1 hF2 3 (G - (i + 1)) (cap - i)) ?_)
 go_wp2
 go_ret
 exact ⟨_, rfl, HO3.out, HB.out⟩
def insRow (xs : List S30) (i : Int) (ys : List S30) : Option (List S30) := if 0 ≤ i ∧ i ≤ (xs.length : Int) ∧ (xs.length : Int) ≤ 1000 ∧ ys.length = 1 then some (xs.take i.toNat ++ ys ++ xs.drop i.toNat) else none
theorem reps_ins {α : Type} {R : α → List Value → Prop} {size : Nat} {ps qs : List α} {cs ds : List Value} (h : Reps R size ps cs) (h2 : Reps R size qs ds) (i : Nat) (hi : i ≤ ps.length) : Reps R size (ps.take i ++ qs ++ ps.drop i) (cs.take (i * size) ++ ds ++ cs.drop (i * size)) := by
 have hle : i * size ≤ cs.length := by rw [h.1]; exact Nat.mul_le_mul_right _ hi
 have htl : (cs.take (i * size)).length = i * size := by rw [List.length_take]; omega
 have hpl : (ps.take i).length = i := by rw [List.length_take]; omega
 refine ⟨?_, fun j p hj => ?_⟩
 ·simp only [List.length_append, htl, List.length_drop, hpl, h.1, h2.1, Nat.add_mul, Nat.sub_mul]
 ·rcases Nat.lt_or_ge j i with hji | hji
  ·rw [List.append_assoc, List.getElem?_append_left (by omega), List.getElem?_take, if_pos hji] at hj
   have hm : j * size + size ≤ i * size := by rw [← Nat.succ_mul]; exact Nat.mul_le_mul_right _ hji
   have h3 := h.2 j p hj
   rw [List.append_assoc, List.drop_append_of_le_length (by omega), List.take_append_of_le_length (by rw [List.length_drop]; omega), List.drop_take, List.take_take, Nat.min_eq_left (by omega)]
   exact h3
  ·have hm : i * size ≤ j * size := Nat.mul_le_mul_right _ hji
   rw [List.append_assoc, List.getElem?_append_right (by omega), hpl] at hj
   rw [List.append_assoc, List.drop_append, List.drop_eq_nil_of_le (by omega), List.nil_append, htl]
   have e0 : j * size - i * size = (j - i) * size := by rw [Nat.sub_mul]
   rw [e0]
   rcases Nat.lt_or_ge (j - i) qs.length with hq | hq
   ·rw [List.getElem?_append_left hq] at hj
    have hm2 : (j - i) * size + size ≤ ds.length := by rw [h2.1, ← Nat.succ_mul]; exact Nat.mul_le_mul_right _ hq
    have h3 := h2.2 _ p hj
    rw [List.drop_append_of_le_length (by omega), List.take_append_of_le_length (by rw [List.length_drop]; omega)]
    exact h3
   ·rw [List.getElem?_append_right hq, List.getElem?_drop] at hj
    have hm2 : ds.length ≤ (j - i) * size := by rw [h2.1]; exact Nat.mul_le_mul_right _ hq
    have h3 := h.2 _ p hj
    rw [List.drop_append, List.drop_eq_nil_of_le hm2, List.nil_append, List.drop_drop, h2.1]
    have e : i * size + ((j - i) * size - qs.length * size) = (i + (j - i - qs.length)) * size := by rw [Nat.add_mul, Nat.sub_mul (j - i)]
    rw [e]
    exact h3
theorem insRow_calls (base : Nat) (ok ok2 : Nat → Prop) (A : Option Addr) (c : Nat) (v2 : Value) (xs ys : List S30) (i : Int) (r : List S30) (w : World) (HO : Kd.R k30 30 w base ok (.slice A xs.length c) xs) (H2 : Kd.R k30 30 w base ok2 v2 ys)
  (hne : ∀ k_, v2.ownBlock = some k_ → some k_ ≠ (Value.slice A xs.length c).ownBlock) (hb : base ≤ w.heap.size) (h : insRow xs i ys = some r) :
  Calls Try.prog 76 #[.slice A xs.length c, .int .i64 i, v2] w fun e w' => ∃ v1, e = .returned v1 ∧ Kd.R k30 30 w' base (fun _ => True) v1 r ∧ Below base w w' := by
 unfold insRow at h
 by_cases c1 : 0 ≤ i ∧ i ≤ (xs.length : Int) ∧ (xs.length : Int) ≤ 1000 ∧ ys.length = 1
 ·rw [if_pos c1] at h
  obtain rfl := Option.some.inj h
  obtain ⟨j, rfl⟩ := Int.eq_ofNat_of_zero_le c1.1
  have hj : j ≤ xs.length := by have := c1.2.1; omega
  have hn : xs.length ≤ 1000 := by have := c1.2.2.1; omega
  have hy : ys.length = 1 := c1.2.2.2
  obtain ⟨_, inner, ho, hr⟩ := HO
  obtain ⟨_, in2, ho2, hr2⟩ := H2
  have h1 : ∀ u ∈ inner, u.oneCell' = true := reps_one hr (by decide) (fun p c hp => k30.K_one (k30.K_of_M hp))
  have h1v : ∀ u ∈ in2, u.oneCell' = true := reps_one hr2 (by decide) (fun p c hp => k30.K_one (k30.K_of_M hp))
  have hvl : in2.length = 8 := by rw [hr2.1, hy]; rfl
  have hR : Reps (k30.M w base (fun _ => True)) 8 (xs.take j ++ ys ++ xs.drop j) (inner.take (j * 8) ++ in2 ++ inner.drop (j * 8)) := reps_ins (hr.imp_ (fun p c hp => kd_M_any rfl hp)) (hr2.imp_ (fun p c hp => kd_M_any rfl hp)) j hj
  have hl : (xs.take j ++ ys ++ xs.drop j).length = xs.length + 1 := by simp only [List.length_append, List.length_take, List.length_drop, hy]; omega
  rcases ho2.2 with ⟨rfl, hn2⟩ | ⟨gb, cap2, cur2, rfl, hbg2, hg2, hnc2, hcm2, hcs2, htake2⟩
  ·omega
  ·rw [hy] at *
   have hvs : ∀ t u, in2[t]? = some u → w.cell? ⟨gb, t, none⟩ = some u := fun t u hu => by
    have h5 := (List.getElem?_eq_some_iff.1 hu).1
    rw [ho2.cellAt t (by have h6 := ho2.1; rw [h6] at h5; exact h5)]; exact hu
   have hgw : gb < w.heap.size := (ho2.lt gb rfl).2
   have fin : ∀ (e : Ending) (w' : World), (∃ v1, e = .returned v1 ∧ w'.ownsRow base 30 8 v1 (xs.length + 1) (inner.take (j * 8) ++ in2 ++ inner.drop (j * 8)) ∧ Below base w w') → ∃ v1, e = .returned v1 ∧ Kd.R k30 30 w' base (fun _ => True) v1 (xs.take j ++ ys ++ xs.drop j) ∧ Below base w w' := by
    rintro e w' ⟨v1, rfl, ho', hb'⟩
    exact ⟨v1, rfl, ⟨fun _ _ => trivial, _, by rw [hl]; exact ho', hR.imp_ (fun p c hp => kd_M_any rfl hp)⟩, hb'⟩
   rw [Int.toNat_natCast]
   by_cases hje : j = xs.length
   ·subst hje
    refine (ins_end xs.length base gb cap2 _ A c inner in2 w rfl ho (own_le ho) hb hn hvl h1v hvs).mono fun e w' hh => fin e w' ?_
    have e1 : inner.take (xs.length * 8) ++ in2 ++ inner.drop (xs.length * 8) = inner ++ in2 := by
     have hil : inner.length = xs.length * 8 := ho.1
     rw [List.take_of_length_le (Nat.le_of_eq hil), List.drop_eq_nil_of_le (Nat.le_of_eq hil), List.append_nil]
    rw [e1]; exact hh
   ·rcases ho.2 with ⟨he, hz⟩ | ⟨g, cap, cur, he, hbg, hg, hnc, hcm, hcs, htake⟩
    ·exfalso; omega
    ·injection he with he1 he2 he3
     subst he1 he3
     have hgne : gb ≠ g := fun e => hne gb rfl (by rw [e]; rfl)
     by_cases hroom : xs.length + 1 ≤ c
     ·refine (ins_room g j xs.length c base gb cap2 inner in2 w ho (by omega) hroom h1 hvl h1v hvs hgne 30 (cap2 * 8) (own_shape ho2) (ho2.frozenAt 0) (ho2.frozenAt _)).mono fun e w' hh => fin e w' ?_
      exact ⟨_, hh.1, hh.2.1, hh.2.2⟩
     ·exact (ins_grow g j xs.length c base gb cap2 inner in2 w ho (by omega) hnc (by omega) hb hn h1 hvl h1v hvs hgw).mono fun e w' hh => fin e w' hh
 ·rw [if_neg c1] at h
  cases h
mutual
def impl_AddDevice.j0 : Nat → List (S30) → List (S30) → Bool → ByteArray → Int → ByteArray → Int → Int → Int → Int → Int → Option ((List (S30)) × Bool)
 | 0, _, _, _, _, _, _, _, _, _, _, _ => none
 | k + 1, x0, x6, x35, x166000, x166001, x166002, x166003, x166004, x166005, x166006, x166007 => if x35 = true then (some (x6, false)) else (impl_AddDevice.l0 k x0 x6 0 x166000 x166001 x166002 x166003 x166004 x166005 x166006 x166007)
def impl_AddDevice.l0 : Nat → List (S30) → List (S30) → Int → ByteArray → Int → ByteArray → Int → Int → Int → Int → Int → Option ((List (S30)) × Bool)
 | 0, _, _, _, _, _, _, _, _, _, _, _ => none
 | k + 1, x0, x6, x7, x166000, x166001, x166002, x166003, x166004, x166005, x166006, x166007 => if x7 < (x0.length : Int) then (if 0 ≤ x7 then (if (Op.bytesLess (((rd_T30 x0 x7).f0).toList) x166000.toList) = true then (impl_AddDevice.l0 k x0 x6 (wrap64 (x7 + 1)) x166000 x166001 x166002 x166003 x166004 x166005 x166006 x166007) else ((insRow x6 x7 ([(⟨x166000, x166001, x166002, (⟨x166003, x166004⟩ : S28), x166005, x166006, x166007⟩ : S30)] : List (S30))).bind fun t177 => (some (t177, true)))) else (none)) else ((insRow x6 x7 ([(⟨x166000, x166001, x166002, (⟨x166003, x166004⟩ : S28), x166005, x166006, x166007⟩ : S30)] : List (S30))).bind fun t183 => (some (t183, true)))
end
def impl_AddDevice.f (k : Nat) (l0 : List (S30)) (a1_0 : ByteArray) (a1_1 : Int) (a1_2 : ByteArray) (a1_3 : Int) (a1_4 : Int) (a1_5 : Int) (a1_6 : Int) (a1_7 : Int) : Option ((List (S30)) × Bool) := (impl_Device.f l0).bind fun t166 => ((impl_IsRig.f k l0).bind fun t169 => (if t169 = true then ((impl_IsDevice.f k a1_0 a1_1 a1_2 a1_3 a1_4 a1_5 a1_6 a1_7).bind fun t170 => (if t170 = true then ((impl_FindDevice.f k l0 a1_0).bind fun t171 => (if t171 ≥ 0 then (impl_AddDevice.j0 k l0 t166 true a1_0 a1_1 a1_2 a1_3 a1_4 a1_5 a1_6 a1_7) else (if (l0.length : Int) ≥ 8 then (impl_AddDevice.j0 k l0 t166 true a1_0 a1_1 a1_2 a1_3 a1_4 a1_5 a1_6 a1_7) else ((impl_isHung.f k l0 a1_0 a1_1 a1_2 a1_3 a1_4 a1_5 a1_6 a1_7).bind fun t172 => (impl_AddDevice.j0 k l0 t166 (!t172) a1_0 a1_1 a1_2 a1_3 a1_4 a1_5 a1_6 a1_7))))) else (impl_AddDevice.j0 k l0 t166 true a1_0 a1_1 a1_2 a1_3 a1_4 a1_5 a1_6 a1_7))) else (impl_AddDevice.j0 k l0 t166 true a1_0 a1_1 a1_2 a1_3 a1_4 a1_5 a1_6 a1_7)))
theorem impl_AddDevice.mono_l : ∀ k, (∀ y0 y1 y2 y3 y4 y5 y6 y7 y8 y9 y10, LeO (impl_AddDevice.j0 k y0 y1 y2 y3 y4 y5 y6 y7 y8 y9 y10) (impl_AddDevice.j0 (k + 1) y0 y1 y2 y3 y4 y5 y6 y7 y8 y9 y10)) ∧ (∀ y0 y1 y2 y3 y4 y5 y6 y7 y8 y9 y10, LeO (impl_AddDevice.l0 k y0 y1 y2 y3 y4 y5 y6 y7 y8 y9 y10) (impl_AddDevice.l0 (k + 1) y0 y1 y2 y3 y4 y5 y6 y7 y8 y9 y10))
 | 0 => ⟨fun _ _ _ _ _ _ _ _ _ _ _ r h => by simp [impl_AddDevice.j0] at h, fun _ _ _ _ _ _ _ _ _ _ _ r h => by simp [impl_AddDevice.l0] at h⟩
 | k + 1 => by
  obtain ⟨ih0, ih1⟩ := impl_AddDevice.mono_l k
  refine ⟨?_, ?_⟩
  ·intro y0 y1 y2 y3 y4 y5 y6 y7 y8 y9 y10
   unfold impl_AddDevice.j0
   repeat' first
   | (with_reducible exact ih0 _ _ _ _ _ _ _ _ _ _ _)
   | (with_reducible exact ih1 _ _ _ _ _ _ _ _ _ _ _)
   | (with_reducible exact impl_FindDevice.mono _ _ _)
   | (with_reducible exact impl_IsDevice.mono _ _ _ _ _ _ _ _ _)
   | (with_reducible exact impl_IsRig.mono _ _)
   | (with_reducible exact impl_isHung.mono _ _ _ _ _ _ _ _ _ _)
   | (with_reducible exact LeO.refl _)
   | (with_reducible exact LeO.none _)
   | (with_reducible refine LeO.ite ?_ ?_)
   | (with_reducible refine LeO.bind ?_ (fun _ => ?_))
  ·intro y0 y1 y2 y3 y4 y5 y6 y7 y8 y9 y10
   unfold impl_AddDevice.l0
   repeat' first
   | (with_reducible exact ih0 _ _ _ _ _ _ _ _ _ _ _)
   | (with_reducible exact ih1 _ _ _ _ _ _ _ _ _ _ _)
   | (with_reducible exact impl_FindDevice.mono _ _ _)
   | (with_reducible exact impl_IsDevice.mono _ _ _ _ _ _ _ _ _)
   | (with_reducible exact impl_IsRig.mono _ _)
   | (with_reducible exact impl_isHung.mono _ _ _ _ _ _ _ _ _ _)
   | (with_reducible exact LeO.refl _)
   | (with_reducible exact LeO.none _)
   | (with_reducible refine LeO.ite ?_ ?_)
   | (with_reducible refine LeO.bind ?_ (fun _ => ?_))
theorem impl_AddDevice.mono : ∀ a0 a1 a2 a3 a4 a5 a6 a7 a8 k, LeO (impl_AddDevice.f k a0 a1 a2 a3 a4 a5 a6 a7 a8) (impl_AddDevice.f (k + 1) a0 a1 a2 a3 a4 a5 a6 a7 a8) := by
 intro a0 a1 a2 a3 a4 a5 a6 a7 a8 k
 obtain ⟨ih0, ih1⟩ := impl_AddDevice.mono_l k
 unfold impl_AddDevice.f
 repeat' first
   | (with_reducible exact ih0 _ _ _ _ _ _ _ _ _ _ _)
   | (with_reducible exact ih1 _ _ _ _ _ _ _ _ _ _ _)
   | (with_reducible exact impl_FindDevice.mono _ _ _)
   | (with_reducible exact impl_IsDevice.mono _ _ _ _ _ _ _ _ _)
   | (with_reducible exact impl_IsRig.mono _ _)
   | (with_reducible exact impl_isHung.mono _ _ _ _ _ _ _ _ _ _)
   | (with_reducible exact LeO.refl _)
   | (with_reducible exact LeO.none _)
   | (with_reducible refine LeO.ite ?_ ?_)
   | (with_reducible refine LeO.bind ?_ (fun _ => ?_))
set_option maxHeartbeats 8000000 in
set_option maxRecDepth 100000 in
theorem impl_AddDevice.calls (k : Nat) (A0 : Option Addr) (c0 : Nat) (l0 : List (S30)) (a1_0 : ByteArray) (a1_1 : Int) (a1_2 : ByteArray) (a1_3 : Int) (a1_4 : Int) (a1_5 : Int) (a1_6 : Int) (a1_7 : Int) (r1 : List (S30)) (r2 : Bool) (w : World) (hr0 : Kd.C k30 w A0 l0.length l0) (hc0 : l0.length ≤ c0) (h : impl_AddDevice.f k l0 a1_0 a1_1 a1_2 a1_3 a1_4 a1_5 a1_6 a1_7 = some (r1, r2)) :
  Calls Try.prog 48 #[.slice A0 l0.length c0, .agg #[.string a1_0, .int .i64 a1_1, .string a1_2, .int .i64 a1_3, .int .i64 a1_4, .int .i64 a1_5, .int .i64 a1_6, .int .i64 a1_7]] w fun e w' => ∃ v0_ : Value, e = .returned (.tuple #[v0_, .bool r2]) ∧ Kd.R k30 30 w' w.heap.size (fun _ => True) v0_ r1 ∧ Below w.heap.size w w' := by
 have hu30 := Try.underlying30
 have HR0 := Aside0.mk hr0
 have HC0 := Aside0.mk hc0
 clear hr0 hc0
 have HB := Aside0.mk (Below.refl w.heap.size w)
 have H : ((impl_Device.f l0).bind fun t166 => ((impl_IsRig.f k l0).bind fun t169 => (if t169 = true then ((impl_IsDevice.f k a1_0 a1_1 a1_2 a1_3 a1_4 a1_5 a1_6 a1_7).bind fun t170 => (if t170 = true then ((impl_FindDevice.f k l0 a1_0).bind fun t171 => (if t171 ≥ 0 then (impl_AddDevice.j0 k l0 t166 true a1_0 a1_1 a1_2 a1_3 a1_4 a1_5 a1_6 a1_7) else (if (l0.length : Int) ≥ 8 then (impl_AddDevice.j0 k l0 t166 true a1_0 a1_1 a1_2 a1_3 a1_4 a1_5 a1_6 a1_7) else ((impl_isHung.f k l0 a1_0 a1_1 a1_2 a1_3 a1_4 a1_5 a1_6 a1_7).bind fun t172 => (impl_AddDevice.j0 k l0 t166 (!t172) a1_0 a1_1 a1_2 a1_3 a1_4 a1_5 a1_6 a1_7))))) else (impl_AddDevice.j0 k l0 t166 true a1_0 a1_1 a1_2 a1_3 a1_4 a1_5 a1_6 a1_7))) else (impl_AddDevice.j0 k l0 t166 true a1_0 a1_1 a1_2 a1_3 a1_4 a1_5 a1_6 a1_7)))) = some (r1, r2) := h
 clear h
 replace H := Option.bind_eq_some_iff.mp H
 obtain ⟨t166, A30, H⟩ := H
 replace H : ((impl_IsRig.f k l0).bind fun t169 => (if t169 = true then ((impl_IsDevice.f k a1_0 a1_1 a1_2 a1_3 a1_4 a1_5 a1_6 a1_7).bind fun t170 => (if t170 = true then ((impl_FindDevice.f k l0 a1_0).bind fun t171 => (if t171 ≥ 0 then (impl_AddDevice.j0 k l0 t166 true a1_0 a1_1 a1_2 a1_3 a1_4 a1_5 a1_6 a1_7) else (if (l0.length : Int) ≥ 8 then (impl_AddDevice.j0 k l0 t166 true a1_0 a1_1 a1_2 a1_3 a1_4 a1_5 a1_6 a1_7) else ((impl_isHung.f k l0 a1_0 a1_1 a1_2 a1_3 a1_4 a1_5 a1_6 a1_7).bind fun t172 => (impl_AddDevice.j0 k l0 t166 (!t172) a1_0 a1_1 a1_2 a1_3 a1_4 a1_5 a1_6 a1_7))))) else (impl_AddDevice.j0 k l0 t166 true a1_0 a1_1 a1_2 a1_3 a1_4 a1_5 a1_6 a1_7))) else (impl_AddDevice.j0 k l0 t166 true a1_0 a1_1 a1_2 a1_3 a1_4 a1_5 a1_6 a1_7))) = some (r1, r2) := H
 have A3 := Aside0.mk A30
 clear A30
 have HC4 := Aside0.mk H
 clear H
 go_enter Try.func48, Try.ntmps48
 go_upto_region 2 with (first | ((with_reducible refine gate_dst (N := 3) rfl ?_); (try (refine gate_guard (by rfl) ?_; dsimp only)); refine box_event ?hg (N := 3) ?hd (cs := #[.string a1_0, .int .i64 a1_1, .string a1_2, .int .i64 a1_3, .int .i64 a1_4, .int .i64 a1_5, .int .i64 a1_6, .int .i64 a1_7]) (t := 30) ?hr ?_; (case hd => rfl); (case hg => rfl); (case hr => exact gq); intro gb165 hg w5 hbox hb; have n0_ := Aside0.mk (below_step u6_4 hb); have n1_ := Aside0.mk (hbox); have n2_ := bsw w hg (below_size u6_4); have n3_ := bsw w hg (below_size u6_4); clear HB; have HB := n0_; have BK165 := n1_; have GW165 := n2_; have GE165 := n3_; clear n0_ n1_ n2_ n3_; clear hb hbox hg) | (go_at_call 70; (with_reducible refine (impl_Device.calls _ _ l0 t166 _ ?side1 ?side2 A3.out).mono ?_); (case side1 => exact y6_0); (case side2 => exact HC0.out); rintro e w6 ⟨v167, rfl, ho0, hb⟩; have n0_ := Aside0.mk (Kd.R_lower (Kd.R_newB ho0 (g := gb165) (o := .cells #[.string a1_0, .int .i64 a1_1, .string a1_2, .int .i64 a1_3, .int .i64 a1_4, .int .i64 a1_5, .int .i64 a1_6, .int .i64 a1_7] 30 (0, 0)) u6_1) (below_size u6_0)); have n1_ := Aside0.mk (blk_below (g := gb165) (o := .cells #[.string a1_0, .int .i64 a1_1, .string a1_2, .int .i64 a1_3, .int .i64 a1_4, .int .i64 a1_5, .int .i64 a1_6, .int .i64 a1_7] 30 (0, 0)) u6_1 hb); have n2_ := Aside0.mk (below_step u6_0 hb); clear BK165; clear HB; have HO168 := n0_; have BK165 := n1_; have HB := n2_; clear n0_ n1_ n2_; (try clear hb); (try clear hb2); (try clear hk); (try clear hi); (try clear ho0)))
 repeat (go_quiet (first | ((with_reducible refine gate_dst (N := 3) rfl ?_); (try (refine gate_guard (by rfl) ?_; dsimp only)); refine box_event ?hg (N := 3) ?hd (cs := #[.string a1_0, .int .i64 a1_1, .string a1_2, .int .i64 a1_3, .int .i64 a1_4, .int .i64 a1_5, .int .i64 a1_6, .int .i64 a1_7]) (t := 30) ?hr ?_; (case hd => rfl); (case hg => rfl); (case hr => exact gq); intro gb165 hg w5 hbox hb; have n0_ := Aside0.mk (below_step u6_4 hb); have n1_ := Aside0.mk (hbox); have n2_ := bsw w hg (below_size u6_4); have n3_ := bsw w hg (below_size u6_4); clear HB; have HB := n0_; have BK165 := n1_; have GW165 := n2_; have GE165 := n3_; clear n0_ n1_ n2_ n3_; clear hb hbox hg) | (go_at_call 70; (with_reducible refine (impl_Device.calls _ _ l0 t166 _ ?side1 ?side2 A3.out).mono ?_); (case side1 => exact y6_0); (case side2 => exact HC0.out); rintro e w6 ⟨v167, rfl, ho0, hb⟩; have n0_ := Aside0.mk (Kd.R_lower (Kd.R_newB ho0 (g := gb165) (o := .cells #[.string a1_0, .int .i64 a1_1, .string a1_2, .int .i64 a1_3, .int .i64 a1_4, .int .i64 a1_5, .int .i64 a1_6, .int .i64 a1_7] 30 (0, 0)) u6_1) (below_size u6_0)); have n1_ := Aside0.mk (blk_below (g := gb165) (o := .cells #[.string a1_0, .int .i64 a1_1, .string a1_2, .int .i64 a1_3, .int .i64 a1_4, .int .i64 a1_5, .int .i64 a1_6, .int .i64 a1_7] 30 (0, 0)) u6_1 hb); have n2_ := Aside0.mk (below_step u6_0 hb); clear BK165; clear HB; have HO168 := n0_; have BK165 := n1_; have HB := n2_; clear n0_ n1_ n2_; (try clear hb); (try clear hb2); (try clear hk); (try clear hi); (try clear ho0))); go_upto_region 2 with (first | ((with_reducible refine gate_dst (N := 3) rfl ?_); (try (refine gate_guard (by rfl) ?_; dsimp only)); refine box_event ?hg (N := 3) ?hd (cs := #[.string a1_0, .int .i64 a1_1, .string a1_2, .int .i64 a1_3, .int .i64 a1_4, .int .i64 a1_5, .int .i64 a1_6, .int .i64 a1_7]) (t := 30) ?hr ?_; (case hd => rfl); (case hg => rfl); (case hr => exact gq); intro gb165 hg w5 hbox hb; have n0_ := Aside0.mk (below_step u6_4 hb); have n1_ := Aside0.mk (hbox); have n2_ := bsw w hg (below_size u6_4); have n3_ := bsw w hg (below_size u6_4); clear HB; have HB := n0_; have BK165 := n1_; have GW165 := n2_; have GE165 := n3_; clear n0_ n1_ n2_ n3_; clear hb hbox hg) | (go_at_call 70; (with_reducible refine (impl_Device.calls _ _ l0 t166 _ ?side1 ?side2 A3.out).mono ?_); (case side1 => exact y6_0); (case side2 => exact HC0.out); rintro e w6 ⟨v167, rfl, ho0, hb⟩; have n0_ := Aside0.mk (Kd.R_lower (Kd.R_newB ho0 (g := gb165) (o := .cells #[.string a1_0, .int .i64 a1_1, .string a1_2, .int .i64 a1_3, .int .i64 a1_4, .int .i64 a1_5, .int .i64 a1_6, .int .i64 a1_7] 30 (0, 0)) u6_1) (below_size u6_0)); have n1_ := Aside0.mk (blk_below (g := gb165) (o := .cells #[.string a1_0, .int .i64 a1_1, .string a1_2, .int .i64 a1_3, .int .i64 a1_4, .int .i64 a1_5, .int .i64 a1_6, .int .i64 a1_7] 30 (0, 0)) u6_1 hb); have n2_ := Aside0.mk (below_step u6_0 hb); clear BK165; clear HB; have HO168 := n0_; have BK165 := n1_; have HB := n2_; clear n0_ n1_ n2_; (try clear hb); (try clear hb2); (try clear hk); (try clear hi); (try clear ho0))))
 (try simp only [Act.put, List.setIfInBounds_toArray, List.set_cons_zero, List.set_cons_succ])
 go_cut [35] (fun v35 wc => ∃ (kq : Nat) (x35_3 : Bool), v35 = .bool x35_3 ∧ Aside0 (impl_AddDevice.j0 kq l0 t166 x35_3 a1_0 a1_1 a1_2 a1_3 a1_4 a1_5 a1_6 a1_7 = some (r1, r2)) ∧ Aside0 (kq ≤ k) ∧ Aside0 (Kd.R k30 30 wc w.heap.size (fun k_ => k_ ≠ gb165) v167 t166) ∧ Aside0 (wc.heap[gb165]? = some (.cells #[.string a1_0, .int .i64 a1_1, .string a1_2, .int .i64 a1_3, .int .i64 a1_4, .int .i64 a1_5, .int .i64 a1_6, .int .i64 a1_7] 30 (0, 0))) ∧ Aside0 (Below w.heap.size w wc))
 case first =>
  have H := HC4.out
  clear HC4
  replace H := Option.bind_eq_some_iff.mp H
  obtain ⟨t169, A70, H⟩ := H
  replace H : (if t169 = true then ((impl_IsDevice.f k a1_0 a1_1 a1_2 a1_3 a1_4 a1_5 a1_6 a1_7).bind fun t170 => (if t170 = true then ((impl_FindDevice.f k l0 a1_0).bind fun t171 => (if t171 ≥ 0 then (impl_AddDevice.j0 k l0 t166 true a1_0 a1_1 a1_2 a1_3 a1_4 a1_5 a1_6 a1_7) else (if (l0.length : Int) ≥ 8 then (impl_AddDevice.j0 k l0 t166 true a1_0 a1_1 a1_2 a1_3 a1_4 a1_5 a1_6 a1_7) else ((impl_isHung.f k l0 a1_0 a1_1 a1_2 a1_3 a1_4 a1_5 a1_6 a1_7).bind fun t172 => (impl_AddDevice.j0 k l0 t166 (!t172) a1_0 a1_1 a1_2 a1_3 a1_4 a1_5 a1_6 a1_7))))) else (impl_AddDevice.j0 k l0 t166 true a1_0 a1_1 a1_2 a1_3 a1_4 a1_5 a1_6 a1_7))) else (impl_AddDevice.j0 k l0 t166 true a1_0 a1_1 a1_2 a1_3 a1_4 a1_5 a1_6 a1_7)) = some (r1, r2) := H
  have A7 := Aside0.mk A70
  clear A70
  by_cases c8 : t169 = true
  ·subst c8
   have H1 : ((impl_IsDevice.f k a1_0 a1_1 a1_2 a1_3 a1_4 a1_5 a1_6 a1_7).bind fun t170 => (if t170 = true then ((impl_FindDevice.f k l0 a1_0).bind fun t171 => (if t171 ≥ 0 then (impl_AddDevice.j0 k l0 t166 true a1_0 a1_1 a1_2 a1_3 a1_4 a1_5 a1_6 a1_7) else (if (l0.length : Int) ≥ 8 then (impl_AddDevice.j0 k l0 t166 true a1_0 a1_1 a1_2 a1_3 a1_4 a1_5 a1_6 a1_7) else ((impl_isHung.f k l0 a1_0 a1_1 a1_2 a1_3 a1_4 a1_5 a1_6 a1_7).bind fun t172 => (impl_AddDevice.j0 k l0 t166 (!t172) a1_0 a1_1 a1_2 a1_3 a1_4 a1_5 a1_6 a1_7))))) else (impl_AddDevice.j0 k l0 t166 true a1_0 a1_1 a1_2 a1_3 a1_4 a1_5 a1_6 a1_7))) = some (r1, r2) := by rw [if_pos rfl] at H; exact H
   clear H
   have H := H1
   clear H1
   replace H := Option.bind_eq_some_iff.mp H
   obtain ⟨t170, A90, H⟩ := H
   replace H : (if t170 = true then ((impl_FindDevice.f k l0 a1_0).bind fun t171 => (if t171 ≥ 0 then (impl_AddDevice.j0 k l0 t166 true a1_0 a1_1 a1_2 a1_3 a1_4 a1_5 a1_6 a1_7) else (if (l0.length : Int) ≥ 8 then (impl_AddDevice.j0 k l0 t166 true a1_0 a1_1 a1_2 a1_3 a1_4 a1_5 a1_6 a1_7) else ((impl_isHung.f k l0 a1_0 a1_1 a1_2 a1_3 a1_4 a1_5 a1_6 a1_7).bind fun t172 => (impl_AddDevice.j0 k l0 t166 (!t172) a1_0 a1_1 a1_2 a1_3 a1_4 a1_5 a1_6 a1_7))))) else (impl_AddDevice.j0 k l0 t166 true a1_0 a1_1 a1_2 a1_3 a1_4 a1_5 a1_6 a1_7)) = some (r1, r2) := H
   have A9 := Aside0.mk A90
   clear A90
   by_cases c10 : t170 = true
   ·subst c10
    have H1 : ((impl_FindDevice.f k l0 a1_0).bind fun t171 => (if t171 ≥ 0 then (impl_AddDevice.j0 k l0 t166 true a1_0 a1_1 a1_2 a1_3 a1_4 a1_5 a1_6 a1_7) else (if (l0.length : Int) ≥ 8 then (impl_AddDevice.j0 k l0 t166 true a1_0 a1_1 a1_2 a1_3 a1_4 a1_5 a1_6 a1_7) else ((impl_isHung.f k l0 a1_0 a1_1 a1_2 a1_3 a1_4 a1_5 a1_6 a1_7).bind fun t172 => (impl_AddDevice.j0 k l0 t166 (!t172) a1_0 a1_1 a1_2 a1_3 a1_4 a1_5 a1_6 a1_7))))) = some (r1, r2) := by rw [if_pos rfl] at H; exact H
    clear H
    have H := H1
    clear H1
    replace H := Option.bind_eq_some_iff.mp H
    obtain ⟨t171, A110, H⟩ := H
    replace H : (if t171 ≥ 0 then (impl_AddDevice.j0 k l0 t166 true a1_0 a1_1 a1_2 a1_3 a1_4 a1_5 a1_6 a1_7) else (if (l0.length : Int) ≥ 8 then (impl_AddDevice.j0 k l0 t166 true a1_0 a1_1 a1_2 a1_3 a1_4 a1_5 a1_6 a1_7) else ((impl_isHung.f k l0 a1_0 a1_1 a1_2 a1_3 a1_4 a1_5 a1_6 a1_7).bind fun t172 => (impl_AddDevice.j0 k l0 t166 (!t172) a1_0 a1_1 a1_2 a1_3 a1_4 a1_5 a1_6 a1_7)))) = some (r1, r2) := H
    have A11 := Aside0.mk A110
    clear A110
    by_cases c12 : t171 ≥ 0
    ·rw [if_pos c12] at H
     have c12b0 : decide (0 ≤ t171) = true := decide_eq_true c12
     clear c12
     (first | rw [c12b0] | (simp only [i64_w, i32_w]; rw [c12b0]) | skip)
     have H' := Aside0.mk H
     clear H
     go_wp2_with (first | (go_at_call 25; (with_reducible refine (impl_IsRig.calls k _ _ l0 true _ ?side1 ?side2 A7.out).mono ?_); (case side1 => exact y6_0); (case side2 => exact HC0.out); rintro e w13 ⟨rfl, hb⟩; have n0_ := Aside0.mk (Kd.R_below u6_2 hb); have n1_ := Aside0.mk (blk_below (g := gb165) (o := .cells #[.string a1_0, .int .i64 a1_1, .string a1_2, .int .i64 a1_3, .int .i64 a1_4, .int .i64 a1_5, .int .i64 a1_6, .int .i64 a1_7] 30 (0, 0)) u6_1 hb); have n2_ := Aside0.mk (below_step u6_0 hb); clear HO168; clear BK165; clear HB; have HO168 := n0_; have BK165 := n1_; have HB := n2_; clear n0_ n1_ n2_; (try clear hb); (try clear hb2); (try clear hk); (try clear hi); obtain ⟨hcz14_0, hcz14_1, hcz14_2, hcz14_3, hcz14_4, hcz14_5, hcz14_6, hcz14_7, hfz14_0, hfz14_1, hfz14_2, hfz14_3, hfz14_4, hfz14_5, hfz14_6, hfz14_7⟩ := cf8 BK165.out) | (go_at_call 18; (with_reducible refine (impl_IsDevice.calls k a1_0 a1_1 a1_2 a1_3 a1_4 a1_5 a1_6 a1_7 true _ A9.out).mono ?_); rintro e w15 ⟨rfl, hb⟩; have n0_ := Aside0.mk (Kd.R_below u6_2 hb); have n1_ := Aside0.mk (blk_below (g := gb165) (o := .cells #[.string a1_0, .int .i64 a1_1, .string a1_2, .int .i64 a1_3, .int .i64 a1_4, .int .i64 a1_5, .int .i64 a1_6, .int .i64 a1_7] 30 (0, 0)) u6_1 hb); have n2_ := Aside0.mk (below_step u6_0 hb); clear HO168; clear BK165; clear HB; have HO168 := n0_; have BK165 := n1_; have HB := n2_; clear n0_ n1_ n2_; (try clear hb); (try clear hb2); (try clear hk); (try clear hi); obtain ⟨hcz16_0, hcz16_1, hcz16_2, hcz16_3, hcz16_4, hcz16_5, hcz16_6, hcz16_7, hfz16_0, hfz16_1, hfz16_2, hfz16_3, hfz16_4, hfz16_5, hfz16_6, hfz16_7⟩ := cf8 BK165.out) | (go_at_call 22; (with_reducible refine (impl_FindDevice.calls k _ _ l0 a1_0 t171 _ ?side1 ?side2 A11.out).mono ?_); (case side1 => exact y6_0); (case side2 => exact HC0.out); rintro e w17 ⟨rfl, hb⟩; have n0_ := Aside0.mk (Kd.R_below u6_2 hb); have n1_ := Aside0.mk (blk_below (g := gb165) (o := .cells #[.string a1_0, .int .i64 a1_1, .string a1_2, .int .i64 a1_3, .int .i64 a1_4, .int .i64 a1_5, .int .i64 a1_6, .int .i64 a1_7] 30 (0, 0)) u6_1 hb); have n2_ := Aside0.mk (below_step u6_0 hb); clear HO168; clear BK165; clear HB; have HO168 := n0_; have BK165 := n1_; have HB := n2_; clear n0_ n1_ n2_; (try clear hb); (try clear hb2); (try clear hk); (try clear hi)))
     repeat (go_quiet (first | (go_at_call 25; (with_reducible refine (impl_IsRig.calls k _ _ l0 true _ ?side1 ?side2 A7.out).mono ?_); (case side1 => exact y6_0); (case side2 => exact HC0.out); rintro e w13 ⟨rfl, hb⟩; have n0_ := Aside0.mk (Kd.R_below u6_2 hb); have n1_ := Aside0.mk (blk_below (g := gb165) (o := .cells #[.string a1_0, .int .i64 a1_1, .string a1_2, .int .i64 a1_3, .int .i64 a1_4, .int .i64 a1_5, .int .i64 a1_6, .int .i64 a1_7] 30 (0, 0)) u6_1 hb); have n2_ := Aside0.mk (below_step u6_0 hb); clear HO168; clear BK165; clear HB; have HO168 := n0_; have BK165 := n1_; have HB := n2_; clear n0_ n1_ n2_; (try clear hb); (try clear hb2); (try clear hk); (try clear hi); obtain ⟨hcz14_0, hcz14_1, hcz14_2, hcz14_3, hcz14_4, hcz14_5, hcz14_6, hcz14_7, hfz14_0, hfz14_1, hfz14_2, hfz14_3, hfz14_4, hfz14_5, hfz14_6, hfz14_7⟩ := cf8 BK165.out) | (go_at_call 18; (with_reducible refine (impl_IsDevice.calls k a1_0 a1_1 a1_2 a1_3 a1_4 a1_5 a1_6 a1_7 true _ A9.out).mono ?_); rintro e w15 ⟨rfl, hb⟩; have n0_ := Aside0.mk (Kd.R_below u6_2 hb); have n1_ := Aside0.mk (blk_below (g := gb165) (o := .cells #[.string a1_0, .int .i64 a1_1, .string a1_2, .int .i64 a1_3, .int .i64 a1_4, .int .i64 a1_5, .int .i64 a1_6, .int .i64 a1_7] 30 (0, 0)) u6_1 hb); have n2_ := Aside0.mk (below_step u6_0 hb); clear HO168; clear BK165; clear HB; have HO168 := n0_; have BK165 := n1_; have HB := n2_; clear n0_ n1_ n2_; (try clear hb); (try clear hb2); (try clear hk); (try clear hi); obtain ⟨hcz16_0, hcz16_1, hcz16_2, hcz16_3, hcz16_4, hcz16_5, hcz16_6, hcz16_7, hfz16_0, hfz16_1, hfz16_2, hfz16_3, hfz16_4, hfz16_5, hfz16_6, hfz16_7⟩ := cf8 BK165.out) | (go_at_call 22; (with_reducible refine (impl_FindDevice.calls k _ _ l0 a1_0 t171 _ ?side1 ?side2 A11.out).mono ?_); (case side1 => exact y6_0); (case side2 => exact HC0.out); rintro e w17 ⟨rfl, hb⟩; have n0_ := Aside0.mk (Kd.R_below u6_2 hb); have n1_ := Aside0.mk (blk_below (g := gb165) (o := .cells #[.string a1_0, .int .i64 a1_1, .string a1_2, .int .i64 a1_3, .int .i64 a1_4, .int .i64 a1_5, .int .i64 a1_6, .int .i64 a1_7] 30 (0, 0)) u6_1 hb); have n2_ := Aside0.mk (below_step u6_0 hb); clear HO168; clear BK165; clear HB; have HO168 := n0_; have BK165 := n1_; have HB := n2_; clear n0_ n1_ n2_; (try clear hb); (try clear hb2); (try clear hk); (try clear hi))); try go_wp2_with (first | (go_at_call 25; (with_reducible refine (impl_IsRig.calls k _ _ l0 true _ ?side1 ?side2 A7.out).mono ?_); (case side1 => exact y6_0); (case side2 => exact HC0.out); rintro e w13 ⟨rfl, hb⟩; have n0_ := Aside0.mk (Kd.R_below u6_2 hb); have n1_ := Aside0.mk (blk_below (g := gb165) (o := .cells #[.string a1_0, .int .i64 a1_1, .string a1_2, .int .i64 a1_3, .int .i64 a1_4, .int .i64 a1_5, .int .i64 a1_6, .int .i64 a1_7] 30 (0, 0)) u6_1 hb); have n2_ := Aside0.mk (below_step u6_0 hb); clear HO168; clear BK165; clear HB; have HO168 := n0_; have BK165 := n1_; have HB := n2_; clear n0_ n1_ n2_; (try clear hb); (try clear hb2); (try clear hk); (try clear hi); obtain ⟨hcz14_0, hcz14_1, hcz14_2, hcz14_3, hcz14_4, hcz14_5, hcz14_6, hcz14_7, hfz14_0, hfz14_1, hfz14_2, hfz14_3, hfz14_4, hfz14_5, hfz14_6, hfz14_7⟩ := cf8 BK165.out) | (go_at_call 18; (with_reducible refine (impl_IsDevice.calls k a1_0 a1_1 a1_2 a1_3 a1_4 a1_5 a1_6 a1_7 true _ A9.out).mono ?_); rintro e w15 ⟨rfl, hb⟩; have n0_ := Aside0.mk (Kd.R_below u6_2 hb); have n1_ := Aside0.mk (blk_below (g := gb165) (o := .cells #[.string a1_0, .int .i64 a1_1, .string a1_2, .int .i64 a1_3, .int .i64 a1_4, .int .i64 a1_5, .int .i64 a1_6, .int .i64 a1_7] 30 (0, 0)) u6_1 hb); have n2_ := Aside0.mk (below_step u6_0 hb); clear HO168; clear BK165; clear HB; have HO168 := n0_; have BK165 := n1_; have HB := n2_; clear n0_ n1_ n2_; (try clear hb); (try clear hb2); (try clear hk); (try clear hi); obtain ⟨hcz16_0, hcz16_1, hcz16_2, hcz16_3, hcz16_4, hcz16_5, hcz16_6, hcz16_7, hfz16_0, hfz16_1, hfz16_2, hfz16_3, hfz16_4, hfz16_5, hfz16_6, hfz16_7⟩ := cf8 BK165.out) | (go_at_call 22; (with_reducible refine (impl_FindDevice.calls k _ _ l0 a1_0 t171 _ ?side1 ?side2 A11.out).mono ?_); (case side1 => exact y6_0); (case side2 => exact HC0.out); rintro e w17 ⟨rfl, hb⟩; have n0_ := Aside0.mk (Kd.R_below u6_2 hb); have n1_ := Aside0.mk (blk_below (g := gb165) (o := .cells #[.string a1_0, .int .i64 a1_1, .string a1_2, .int .i64 a1_3, .int .i64 a1_4, .int .i64 a1_5, .int .i64 a1_6, .int .i64 a1_7] 30 (0, 0)) u6_1 hb); have n2_ := Aside0.mk (below_step u6_0 hb); clear HO168; clear BK165; clear HB; have HO168 := n0_; have BK165 := n1_; have HB := n2_; clear n0_ n1_ n2_; (try clear hb); (try clear hb2); (try clear hk); (try clear hi))))
     go_meet
     case rel => exact ⟨_, (true), u6_5, H', ⟨by first | omega | exact Nat.le_refl _⟩, ⟨by (with_reducible repeat (first | apply Kd.R_alloc | apply Kd.R_drewN | apply Kd.R_drew)); exact Kd.R_mono HO168.out (fun _ hk => hk.2)⟩, ⟨by (with_reducible repeat (first | refine blk_drewN ?_ _ | refine blk_drew ?_ | refine blk_alloc ?_ _)); exact BK165.out⟩, ⟨s6_0⟩⟩
    ·rw [if_neg c12] at H
     have c12b0 : decide (0 ≤ t171) = false := decide_eq_false c12
     clear c12
     (first | rw [c12b0] | (simp only [i64_w, i32_w]; rw [c12b0]) | skip)
     by_cases c18 : (l0.length : Int) ≥ 8
     ·rw [if_pos c18] at H
      have c18b0 : decide (8 ≤ (l0.length : Int)) = true := decide_eq_true c18
      have c18b1 : decide (8 ≤ l0.length) = true := decide_eq_true (by omega)
      clear c18
      have H' := Aside0.mk H
      clear H
      go_wp2_with (first | (go_at_call 25; (with_reducible refine (impl_IsRig.calls k _ _ l0 true _ ?side1 ?side2 A7.out).mono ?_); (case side1 => exact y6_0); (case side2 => exact HC0.out); rintro e w19 ⟨rfl, hb⟩; have n0_ := Aside0.mk (Kd.R_below u6_2 hb); have n1_ := Aside0.mk (blk_below (g := gb165) (o := .cells #[.string a1_0, .int .i64 a1_1, .string a1_2, .int .i64 a1_3, .int .i64 a1_4, .int .i64 a1_5, .int .i64 a1_6, .int .i64 a1_7] 30 (0, 0)) u6_1 hb); have n2_ := Aside0.mk (below_step u6_0 hb); clear HO168; clear BK165; clear HB; have HO168 := n0_; have BK165 := n1_; have HB := n2_; clear n0_ n1_ n2_; (try clear hb); (try clear hb2); (try clear hk); (try clear hi); obtain ⟨hcz20_0, hcz20_1, hcz20_2, hcz20_3, hcz20_4, hcz20_5, hcz20_6, hcz20_7, hfz20_0, hfz20_1, hfz20_2, hfz20_3, hfz20_4, hfz20_5, hfz20_6, hfz20_7⟩ := cf8 BK165.out) | (go_at_call 18; (with_reducible refine (impl_IsDevice.calls k a1_0 a1_1 a1_2 a1_3 a1_4 a1_5 a1_6 a1_7 true _ A9.out).mono ?_); rintro e w21 ⟨rfl, hb⟩; have n0_ := Aside0.mk (Kd.R_below u6_2 hb); have n1_ := Aside0.mk (blk_below (g := gb165) (o := .cells #[.string a1_0, .int .i64 a1_1, .string a1_2, .int .i64 a1_3, .int .i64 a1_4, .int .i64 a1_5, .int .i64 a1_6, .int .i64 a1_7] 30 (0, 0)) u6_1 hb); have n2_ := Aside0.mk (below_step u6_0 hb); clear HO168; clear BK165; clear HB; have HO168 := n0_; have BK165 := n1_; have HB := n2_; clear n0_ n1_ n2_; (try clear hb); (try clear hb2); (try clear hk); (try clear hi); obtain ⟨hcz22_0, hcz22_1, hcz22_2, hcz22_3, hcz22_4, hcz22_5, hcz22_6, hcz22_7, hfz22_0, hfz22_1, hfz22_2, hfz22_3, hfz22_4, hfz22_5, hfz22_6, hfz22_7⟩ := cf8 BK165.out) | (go_at_call 22; (with_reducible refine (impl_FindDevice.calls k _ _ l0 a1_0 t171 _ ?side1 ?side2 A11.out).mono ?_); (case side1 => exact y6_0); (case side2 => exact HC0.out); rintro e w23 ⟨rfl, hb⟩; have n0_ := Aside0.mk (Kd.R_below u6_2 hb); have n1_ := Aside0.mk (blk_below (g := gb165) (o := .cells #[.string a1_0, .int .i64 a1_1, .string a1_2, .int .i64 a1_3, .int .i64 a1_4, .int .i64 a1_5, .int .i64 a1_6, .int .i64 a1_7] 30 (0, 0)) u6_1 hb); have n2_ := Aside0.mk (below_step u6_0 hb); clear HO168; clear BK165; clear HB; have HO168 := n0_; have BK165 := n1_; have HB := n2_; clear n0_ n1_ n2_; (try clear hb); (try clear hb2); (try clear hk); (try clear hi)))
      repeat (go_quiet (first | (go_at_call 25; (with_reducible refine (impl_IsRig.calls k _ _ l0 true _ ?side1 ?side2 A7.out).mono ?_); (case side1 => exact y6_0); (case side2 => exact HC0.out); rintro e w19 ⟨rfl, hb⟩; have n0_ := Aside0.mk (Kd.R_below u6_2 hb); have n1_ := Aside0.mk (blk_below (g := gb165) (o := .cells #[.string a1_0, .int .i64 a1_1, .string a1_2, .int .i64 a1_3, .int .i64 a1_4, .int .i64 a1_5, .int .i64 a1_6, .int .i64 a1_7] 30 (0, 0)) u6_1 hb); have n2_ := Aside0.mk (below_step u6_0 hb); clear HO168; clear BK165; clear HB; have HO168 := n0_; have BK165 := n1_; have HB := n2_; clear n0_ n1_ n2_; (try clear hb); (try clear hb2); (try clear hk); (try clear hi); obtain ⟨hcz20_0, hcz20_1, hcz20_2, hcz20_3, hcz20_4, hcz20_5, hcz20_6, hcz20_7, hfz20_0, hfz20_1, hfz20_2, hfz20_3, hfz20_4, hfz20_5, hfz20_6, hfz20_7⟩ := cf8 BK165.out) | (go_at_call 18; (with_reducible refine (impl_IsDevice.calls k a1_0 a1_1 a1_2 a1_3 a1_4 a1_5 a1_6 a1_7 true _ A9.out).mono ?_); rintro e w21 ⟨rfl, hb⟩; have n0_ := Aside0.mk (Kd.R_below u6_2 hb); have n1_ := Aside0.mk (blk_below (g := gb165) (o := .cells #[.string a1_0, .int .i64 a1_1, .string a1_2, .int .i64 a1_3, .int .i64 a1_4, .int .i64 a1_5, .int .i64 a1_6, .int .i64 a1_7] 30 (0, 0)) u6_1 hb); have n2_ := Aside0.mk (below_step u6_0 hb); clear HO168; clear BK165; clear HB; have HO168 := n0_; have BK165 := n1_; have HB := n2_; clear n0_ n1_ n2_; (try clear hb); (try clear hb2); (try clear hk); (try clear hi); obtain ⟨hcz22_0, hcz22_1, hcz22_2, hcz22_3, hcz22_4, hcz22_5, hcz22_6, hcz22_7, hfz22_0, hfz22_1, hfz22_2, hfz22_3, hfz22_4, hfz22_5, hfz22_6, hfz22_7⟩ := cf8 BK165.out) | (go_at_call 22; (with_reducible refine (impl_FindDevice.calls k _ _ l0 a1_0 t171 _ ?side1 ?side2 A11.out).mono ?_); (case side1 => exact y6_0); (case side2 => exact HC0.out); rintro e w23 ⟨rfl, hb⟩; have n0_ := Aside0.mk (Kd.R_below u6_2 hb); have n1_ := Aside0.mk (blk_below (g := gb165) (o := .cells #[.string a1_0, .int .i64 a1_1, .string a1_2, .int .i64 a1_3, .int .i64 a1_4, .int .i64 a1_5, .int .i64 a1_6, .int .i64 a1_7] 30 (0, 0)) u6_1 hb); have n2_ := Aside0.mk (below_step u6_0 hb); clear HO168; clear BK165; clear HB; have HO168 := n0_; have BK165 := n1_; have HB := n2_; clear n0_ n1_ n2_; (try clear hb); (try clear hb2); (try clear hk); (try clear hi))); try go_wp2_with (first | (go_at_call 25; (with_reducible refine (impl_IsRig.calls k _ _ l0 true _ ?side1 ?side2 A7.out).mono ?_); (case side1 => exact y6_0); (case side2 => exact HC0.out); rintro e w19 ⟨rfl, hb⟩; have n0_ := Aside0.mk (Kd.R_below u6_2 hb); have n1_ := Aside0.mk (blk_below (g := gb165) (o := .cells #[.string a1_0, .int .i64 a1_1, .string a1_2, .int .i64 a1_3, .int .i64 a1_4, .int .i64 a1_5, .int .i64 a1_6, .int .i64 a1_7] 30 (0, 0)) u6_1 hb); have n2_ := Aside0.mk (below_step u6_0 hb); clear HO168; clear BK165; clear HB; have HO168 := n0_; have BK165 := n1_; have HB := n2_; clear n0_ n1_ n2_; (try clear hb); (try clear hb2); (try clear hk); (try clear hi); obtain ⟨hcz20_0, hcz20_1, hcz20_2, hcz20_3, hcz20_4, hcz20_5, hcz20_6, hcz20_7, hfz20_0, hfz20_1, hfz20_2, hfz20_3, hfz20_4, hfz20_5, hfz20_6, hfz20_7⟩ := cf8 BK165.out) | (go_at_call 18; (with_reducible refine (impl_IsDevice.calls k a1_0 a1_1 a1_2 a1_3 a1_4 a1_5 a1_6 a1_7 true _ A9.out).mono ?_); rintro e w21 ⟨rfl, hb⟩; have n0_ := Aside0.mk (Kd.R_below u6_2 hb); have n1_ := Aside0.mk (blk_below (g := gb165) (o := .cells #[.string a1_0, .int .i64 a1_1, .string a1_2, .int .i64 a1_3, .int .i64 a1_4, .int .i64 a1_5, .int .i64 a1_6, .int .i64 a1_7] 30 (0, 0)) u6_1 hb); have n2_ := Aside0.mk (below_step u6_0 hb); clear HO168; clear BK165; clear HB; have HO168 := n0_; have BK165 := n1_; have HB := n2_; clear n0_ n1_ n2_; (try clear hb); (try clear hb2); (try clear hk); (try clear hi); obtain ⟨hcz22_0, hcz22_1, hcz22_2, hcz22_3, hcz22_4, hcz22_5, hcz22_6, hcz22_7, hfz22_0, hfz22_1, hfz22_2, hfz22_3, hfz22_4, hfz22_5, hfz22_6, hfz22_7⟩ := cf8 BK165.out) | (go_at_call 22; (with_reducible refine (impl_FindDevice.calls k _ _ l0 a1_0 t171 _ ?side1 ?side2 A11.out).mono ?_); (case side1 => exact y6_0); (case side2 => exact HC0.out); rintro e w23 ⟨rfl, hb⟩; have n0_ := Aside0.mk (Kd.R_below u6_2 hb); have n1_ := Aside0.mk (blk_below (g := gb165) (o := .cells #[.string a1_0, .int .i64 a1_1, .string a1_2, .int .i64 a1_3, .int .i64 a1_4, .int .i64 a1_5, .int .i64 a1_6, .int .i64 a1_7] 30 (0, 0)) u6_1 hb); have n2_ := Aside0.mk (below_step u6_0 hb); clear HO168; clear BK165; clear HB; have HO168 := n0_; have BK165 := n1_; have HB := n2_; clear n0_ n1_ n2_; (try clear hb); (try clear hb2); (try clear hk); (try clear hi))))
      go_meet
      case rel => exact ⟨_, (true), u6_5, H', ⟨by first | omega | exact Nat.le_refl _⟩, ⟨by (with_reducible repeat (first | apply Kd.R_alloc | apply Kd.R_drewN | apply Kd.R_drew)); exact Kd.R_mono HO168.out (fun _ hk => hk.2)⟩, ⟨by (with_reducible repeat (first | refine blk_drewN ?_ _ | refine blk_drew ?_ | refine blk_alloc ?_ _)); exact BK165.out⟩, ⟨s6_0⟩⟩
     ·rw [if_neg c18] at H
      have c18b0 : decide (8 ≤ (l0.length : Int)) = false := decide_eq_false c18
      have c18b1 : decide (8 ≤ l0.length) = false := decide_eq_false (by omega)
      clear c18
      replace H := Option.bind_eq_some_iff.mp H
      obtain ⟨t172, A240, H⟩ := H
      replace H : (impl_AddDevice.j0 k l0 t166 (!t172) a1_0 a1_1 a1_2 a1_3 a1_4 a1_5 a1_6 a1_7) = some (r1, r2) := H
      have A24 := Aside0.mk A240
      clear A240
      have H' := Aside0.mk H
      clear H
      go_wp2_with (first | (go_at_call 25; (with_reducible refine (impl_IsRig.calls k _ _ l0 true _ ?side1 ?side2 A7.out).mono ?_); (case side1 => exact y6_0); (case side2 => exact HC0.out); rintro e w25 ⟨rfl, hb⟩; have n0_ := Aside0.mk (Kd.R_below u6_2 hb); have n1_ := Aside0.mk (blk_below (g := gb165) (o := .cells #[.string a1_0, .int .i64 a1_1, .string a1_2, .int .i64 a1_3, .int .i64 a1_4, .int .i64 a1_5, .int .i64 a1_6, .int .i64 a1_7] 30 (0, 0)) u6_1 hb); have n2_ := Aside0.mk (below_step u6_0 hb); clear HO168; clear BK165; clear HB; have HO168 := n0_; have BK165 := n1_; have HB := n2_; clear n0_ n1_ n2_; (try clear hb); (try clear hb2); (try clear hk); (try clear hi); obtain ⟨hcz26_0, hcz26_1, hcz26_2, hcz26_3, hcz26_4, hcz26_5, hcz26_6, hcz26_7, hfz26_0, hfz26_1, hfz26_2, hfz26_3, hfz26_4, hfz26_5, hfz26_6, hfz26_7⟩ := cf8 BK165.out) | (go_at_call 18; (with_reducible refine (impl_IsDevice.calls k a1_0 a1_1 a1_2 a1_3 a1_4 a1_5 a1_6 a1_7 true _ A9.out).mono ?_); rintro e w27 ⟨rfl, hb⟩; have n0_ := Aside0.mk (Kd.R_below u6_2 hb); have n1_ := Aside0.mk (blk_below (g := gb165) (o := .cells #[.string a1_0, .int .i64 a1_1, .string a1_2, .int .i64 a1_3, .int .i64 a1_4, .int .i64 a1_5, .int .i64 a1_6, .int .i64 a1_7] 30 (0, 0)) u6_1 hb); have n2_ := Aside0.mk (below_step u6_0 hb); clear HO168; clear BK165; clear HB; have HO168 := n0_; have BK165 := n1_; have HB := n2_; clear n0_ n1_ n2_; (try clear hb); (try clear hb2); (try clear hk); (try clear hi); obtain ⟨hcz28_0, hcz28_1, hcz28_2, hcz28_3, hcz28_4, hcz28_5, hcz28_6, hcz28_7, hfz28_0, hfz28_1, hfz28_2, hfz28_3, hfz28_4, hfz28_5, hfz28_6, hfz28_7⟩ := cf8 BK165.out) | (go_at_call 22; (with_reducible refine (impl_FindDevice.calls k _ _ l0 a1_0 t171 _ ?side1 ?side2 A11.out).mono ?_); (case side1 => exact y6_0); (case side2 => exact HC0.out); rintro e w29 ⟨rfl, hb⟩; have n0_ := Aside0.mk (Kd.R_below u6_2 hb); have n1_ := Aside0.mk (blk_below (g := gb165) (o := .cells #[.string a1_0, .int .i64 a1_1, .string a1_2, .int .i64 a1_3, .int .i64 a1_4, .int .i64 a1_5, .int .i64 a1_6, .int .i64 a1_7] 30 (0, 0)) u6_1 hb); have n2_ := Aside0.mk (below_step u6_0 hb); clear HO168; clear BK165; clear HB; have HO168 := n0_; have BK165 := n1_; have HB := n2_; clear n0_ n1_ n2_; (try clear hb); (try clear hb2); (try clear hk); (try clear hi); obtain ⟨hcz30_0, hcz30_1, hcz30_2, hcz30_3, hcz30_4, hcz30_5, hcz30_6, hcz30_7, hfz30_0, hfz30_1, hfz30_2, hfz30_3, hfz30_4, hfz30_5, hfz30_6, hfz30_7⟩ := cf8 BK165.out) | (go_at_call 65; (with_reducible refine (impl_isHung.calls k _ _ l0 a1_0 a1_1 a1_2 a1_3 a1_4 a1_5 a1_6 a1_7 t172 _ ?side1 ?side2 A24.out).mono ?_); (case side1 => exact y6_0); (case side2 => exact HC0.out); rintro e w31 ⟨rfl, hb⟩; have n0_ := Aside0.mk (Kd.R_below u6_2 hb); have n1_ := Aside0.mk (blk_below (g := gb165) (o := .cells #[.string a1_0, .int .i64 a1_1, .string a1_2, .int .i64 a1_3, .int .i64 a1_4, .int .i64 a1_5, .int .i64 a1_6, .int .i64 a1_7] 30 (0, 0)) u6_1 hb); have n2_ := Aside0.mk (below_step u6_0 hb); clear HO168; clear BK165; clear HB; have HO168 := n0_; have BK165 := n1_; have HB := n2_; clear n0_ n1_ n2_; (try clear hb); (try clear hb2); (try clear hk); (try clear hi)))
      repeat (go_quiet (first | (go_at_call 25; (with_reducible refine (impl_IsRig.calls k _ _ l0 true _ ?side1 ?side2 A7.out).mono ?_); (case side1 => exact y6_0); (case side2 => exact HC0.out); rintro e w25 ⟨rfl, hb⟩; have n0_ := Aside0.mk (Kd.R_below u6_2 hb); have n1_ := Aside0.mk (blk_below (g := gb165) (o := .cells #[.string a1_0, .int .i64 a1_1, .string a1_2, .int .i64 a1_3, .int .i64 a1_4, .int .i64 a1_5, .int .i64 a1_6, .int .i64 a1_7] 30 (0, 0)) u6_1 hb); have n2_ := Aside0.mk (below_step u6_0 hb); clear HO168; clear BK165; clear HB; have HO168 := n0_; have BK165 := n1_; have HB := n2_; clear n0_ n1_ n2_; (try clear hb); (try clear hb2); (try clear hk); (try clear hi); obtain ⟨hcz26_0, hcz26_1, hcz26_2, hcz26_3, hcz26_4, hcz26_5, hcz26_6, hcz26_7, hfz26_0, hfz26_1, hfz26_2, hfz26_3, hfz26_4, hfz26_5, hfz26_6, hfz26_7⟩ := cf8 BK165.out) | (go_at_call 18; (with_reducible refine (impl_IsDevice.calls k a1_0 a1_1 a1_2 a1_3 a1_4 a1_5 a1_6 a1_7 true _ A9.out).mono ?_); rintro e w27 ⟨rfl, hb⟩; have n0_ := Aside0.mk (Kd.R_below u6_2 hb); have n1_ := Aside0.mk (blk_below (g := gb165) (o := .cells #[.string a1_0, .int .i64 a1_1, .string a1_2, .int .i64 a1_3, .int .i64 a1_4, .int .i64 a1_5, .int .i64 a1_6, .int .i64 a1_7] 30 (0, 0)) u6_1 hb); have n2_ := Aside0.mk (below_step u6_0 hb); clear HO168; clear BK165; clear HB; have HO168 := n0_; have BK165 := n1_; have HB := n2_; clear n0_ n1_ n2_; (try clear hb); (try clear hb2); (try clear hk); (try clear hi); obtain ⟨hcz28_0, hcz28_1, hcz28_2, hcz28_3, hcz28_4, hcz28_5, hcz28_6, hcz28_7, hfz28_0, hfz28_1, hfz28_2, hfz28_3, hfz28_4, hfz28_5, hfz28_6, hfz28_7⟩ := cf8 BK165.out) | (go_at_call 22; (with_reducible refine (impl_FindDevice.calls k _ _ l0 a1_0 t171 _ ?side1 ?side2 A11.out).mono ?_); (case side1 => exact y6_0); (case side2 => exact HC0.out); rintro e w29 ⟨rfl, hb⟩; have n0_ := Aside0.mk (Kd.R_below u6_2 hb); have n1_ := Aside0.mk (blk_below (g := gb165) (o := .cells #[.string a1_0, .int .i64 a1_1, .string a1_2, .int .i64 a1_3, .int .i64 a1_4, .int .i64 a1_5, .int .i64 a1_6, .int .i64 a1_7] 30 (0, 0)) u6_1 hb); have n2_ := Aside0.mk (below_step u6_0 hb); clear HO168; clear BK165; clear HB; have HO168 := n0_; have BK165 := n1_; have HB := n2_; clear n0_ n1_ n2_; (try clear hb); (try clear hb2); (try clear hk); (try clear hi); obtain ⟨hcz30_0, hcz30_1, hcz30_2, hcz30_3, hcz30_4, hcz30_5, hcz30_6, hcz30_7, hfz30_0, hfz30_1, hfz30_2, hfz30_3, hfz30_4, hfz30_5, hfz30_6, hfz30_7⟩ := cf8 BK165.out) | (go_at_call 65; (with_reducible refine (impl_isHung.calls k _ _ l0 a1_0 a1_1 a1_2 a1_3 a1_4 a1_5 a1_6 a1_7 t172 _ ?side1 ?side2 A24.out).mono ?_); (case side1 => exact y6_0); (case side2 => exact HC0.out); rintro e w31 ⟨rfl, hb⟩; have n0_ := Aside0.mk (Kd.R_below u6_2 hb); have n1_ := Aside0.mk (blk_below (g := gb165) (o := .cells #[.string a1_0, .int .i64 a1_1, .string a1_2, .int .i64 a1_3, .int .i64 a1_4, .int .i64 a1_5, .int .i64 a1_6, .int .i64 a1_7] 30 (0, 0)) u6_1 hb); have n2_ := Aside0.mk (below_step u6_0 hb); clear HO168; clear BK165; clear HB; have HO168 := n0_; have BK165 := n1_; have HB := n2_; clear n0_ n1_ n2_; (try clear hb); (try clear hb2); (try clear hk); (try clear hi))); try go_wp2_with (first | (go_at_call 25; (with_reducible refine (impl_IsRig.calls k _ _ l0 true _ ?side1 ?side2 A7.out).mono ?_); (case side1 => exact y6_0); (case side2 => exact HC0.out); rintro e w25 ⟨rfl, hb⟩; have n0_ := Aside0.mk (Kd.R_below u6_2 hb); have n1_ := Aside0.mk (blk_below (g := gb165) (o := .cells #[.string a1_0, .int .i64 a1_1, .string a1_2, .int .i64 a1_3, .int .i64 a1_4, .int .i64 a1_5, .int .i64 a1_6, .int .i64 a1_7] 30 (0, 0)) u6_1 hb); have n2_ := Aside0.mk (below_step u6_0 hb); clear HO168; clear BK165; clear HB; have HO168 := n0_; have BK165 := n1_; have HB := n2_; clear n0_ n1_ n2_; (try clear hb); (try clear hb2); (try clear hk); (try clear hi); obtain ⟨hcz26_0, hcz26_1, hcz26_2, hcz26_3, hcz26_4, hcz26_5, hcz26_6, hcz26_7, hfz26_0, hfz26_1, hfz26_2, hfz26_3, hfz26_4, hfz26_5, hfz26_6, hfz26_7⟩ := cf8 BK165.out) | (go_at_call 18; (with_reducible refine (impl_IsDevice.calls k a1_0 a1_1 a1_2 a1_3 a1_4 a1_5 a1_6 a1_7 true _ A9.out).mono ?_); rintro e w27 ⟨rfl, hb⟩; have n0_ := Aside0.mk (Kd.R_below u6_2 hb); have n1_ := Aside0.mk (blk_below (g := gb165) (o := .cells #[.string a1_0, .int .i64 a1_1, .string a1_2, .int .i64 a1_3, .int .i64 a1_4, .int .i64 a1_5, .int .i64 a1_6, .int .i64 a1_7] 30 (0, 0)) u6_1 hb); have n2_ := Aside0.mk (below_step u6_0 hb); clear HO168; clear BK165; clear HB; have HO168 := n0_; have BK165 := n1_; have HB := n2_; clear n0_ n1_ n2_; (try clear hb); (try clear hb2); (try clear hk); (try clear hi); obtain ⟨hcz28_0, hcz28_1, hcz28_2, hcz28_3, hcz28_4, hcz28_5, hcz28_6, hcz28_7, hfz28_0, hfz28_1, hfz28_2, hfz28_3, hfz28_4, hfz28_5, hfz28_6, hfz28_7⟩ := cf8 BK165.out) | (go_at_call 22; (with_reducible refine (impl_FindDevice.calls k _ _ l0 a1_0 t171 _ ?side1 ?side2 A11.out).mono ?_); (case side1 => exact y6_0); (case side2 => exact HC0.out); rintro e w29 ⟨rfl, hb⟩; have n0_ := Aside0.mk (Kd.R_below u6_2 hb); have n1_ := Aside0.mk (blk_below (g := gb165) (o := .cells #[.string a1_0, .int .i64 a1_1, .string a1_2, .int .i64 a1_3, .int .i64 a1_4, .int .i64 a1_5, .int .i64 a1_6, .int .i64 a1_7] 30 (0, 0)) u6_1 hb); have n2_ := Aside0.mk (below_step u6_0 hb); clear HO168; clear BK165; clear HB; have HO168 := n0_; have BK165 := n1_; have HB := n2_; clear n0_ n1_ n2_; (try clear hb); (try clear hb2); (try clear hk); (try clear hi); obtain ⟨hcz30_0, hcz30_1, hcz30_2, hcz30_3, hcz30_4, hcz30_5, hcz30_6, hcz30_7, hfz30_0, hfz30_1, hfz30_2, hfz30_3, hfz30_4, hfz30_5, hfz30_6, hfz30_7⟩ := cf8 BK165.out) | (go_at_call 65; (with_reducible refine (impl_isHung.calls k _ _ l0 a1_0 a1_1 a1_2 a1_3 a1_4 a1_5 a1_6 a1_7 t172 _ ?side1 ?side2 A24.out).mono ?_); (case side1 => exact y6_0); (case side2 => exact HC0.out); rintro e w31 ⟨rfl, hb⟩; have n0_ := Aside0.mk (Kd.R_below u6_2 hb); have n1_ := Aside0.mk (blk_below (g := gb165) (o := .cells #[.string a1_0, .int .i64 a1_1, .string a1_2, .int .i64 a1_3, .int .i64 a1_4, .int .i64 a1_5, .int .i64 a1_6, .int .i64 a1_7] 30 (0, 0)) u6_1 hb); have n2_ := Aside0.mk (below_step u6_0 hb); clear HO168; clear BK165; clear HB; have HO168 := n0_; have BK165 := n1_; have HB := n2_; clear n0_ n1_ n2_; (try clear hb); (try clear hb2); (try clear hk); (try clear hi))))
      go_meet
      case rel => exact ⟨_, (!t172), u6_5, H', ⟨by first | omega | exact Nat.le_refl _⟩, ⟨by (with_reducible repeat (first | apply Kd.R_alloc | apply Kd.R_drewN | apply Kd.R_drew)); exact Kd.R_mono HO168.out (fun _ hk => hk.2)⟩, ⟨by (with_reducible repeat (first | refine blk_drewN ?_ _ | refine blk_drew ?_ | refine blk_alloc ?_ _)); exact BK165.out⟩, ⟨s6_0⟩⟩
   ·replace c10 := Bool.eq_false_iff.mpr c10
    subst c10
    have H1 : (impl_AddDevice.j0 k l0 t166 true a1_0 a1_1 a1_2 a1_3 a1_4 a1_5 a1_6 a1_7) = some (r1, r2) := by rw [if_neg (show ¬ (false = true) by decide)] at H; exact H
    clear H
    have H := H1
    clear H1
    have H' := Aside0.mk H
    clear H
    go_wp2_with (first | (go_at_call 25; (with_reducible refine (impl_IsRig.calls k _ _ l0 true _ ?side1 ?side2 A7.out).mono ?_); (case side1 => exact y6_0); (case side2 => exact HC0.out); rintro e w32 ⟨rfl, hb⟩; have n0_ := Aside0.mk (Kd.R_below u6_2 hb); have n1_ := Aside0.mk (blk_below (g := gb165) (o := .cells #[.string a1_0, .int .i64 a1_1, .string a1_2, .int .i64 a1_3, .int .i64 a1_4, .int .i64 a1_5, .int .i64 a1_6, .int .i64 a1_7] 30 (0, 0)) u6_1 hb); have n2_ := Aside0.mk (below_step u6_0 hb); clear HO168; clear BK165; clear HB; have HO168 := n0_; have BK165 := n1_; have HB := n2_; clear n0_ n1_ n2_; (try clear hb); (try clear hb2); (try clear hk); (try clear hi); obtain ⟨hcz33_0, hcz33_1, hcz33_2, hcz33_3, hcz33_4, hcz33_5, hcz33_6, hcz33_7, hfz33_0, hfz33_1, hfz33_2, hfz33_3, hfz33_4, hfz33_5, hfz33_6, hfz33_7⟩ := cf8 BK165.out) | (go_at_call 18; (with_reducible refine (impl_IsDevice.calls k a1_0 a1_1 a1_2 a1_3 a1_4 a1_5 a1_6 a1_7 false _ A9.out).mono ?_); rintro e w34 ⟨rfl, hb⟩; have n0_ := Aside0.mk (Kd.R_below u6_2 hb); have n1_ := Aside0.mk (blk_below (g := gb165) (o := .cells #[.string a1_0, .int .i64 a1_1, .string a1_2, .int .i64 a1_3, .int .i64 a1_4, .int .i64 a1_5, .int .i64 a1_6, .int .i64 a1_7] 30 (0, 0)) u6_1 hb); have n2_ := Aside0.mk (below_step u6_0 hb); clear HO168; clear BK165; clear HB; have HO168 := n0_; have BK165 := n1_; have HB := n2_; clear n0_ n1_ n2_; (try clear hb); (try clear hb2); (try clear hk); (try clear hi)))
    repeat (go_quiet (first | (go_at_call 25; (with_reducible refine (impl_IsRig.calls k _ _ l0 true _ ?side1 ?side2 A7.out).mono ?_); (case side1 => exact y6_0); (case side2 => exact HC0.out); rintro e w32 ⟨rfl, hb⟩; have n0_ := Aside0.mk (Kd.R_below u6_2 hb); have n1_ := Aside0.mk (blk_below (g := gb165) (o := .cells #[.string a1_0, .int .i64 a1_1, .string a1_2, .int .i64 a1_3, .int .i64 a1_4, .int .i64 a1_5, .int .i64 a1_6, .int .i64 a1_7] 30 (0, 0)) u6_1 hb); have n2_ := Aside0.mk (below_step u6_0 hb); clear HO168; clear BK165; clear HB; have HO168 := n0_; have BK165 := n1_; have HB := n2_; clear n0_ n1_ n2_; (try clear hb); (try clear hb2); (try clear hk); (try clear hi); obtain ⟨hcz33_0, hcz33_1, hcz33_2, hcz33_3, hcz33_4, hcz33_5, hcz33_6, hcz33_7, hfz33_0, hfz33_1, hfz33_2, hfz33_3, hfz33_4, hfz33_5, hfz33_6, hfz33_7⟩ := cf8 BK165.out) | (go_at_call 18; (with_reducible refine (impl_IsDevice.calls k a1_0 a1_1 a1_2 a1_3 a1_4 a1_5 a1_6 a1_7 false _ A9.out).mono ?_); rintro e w34 ⟨rfl, hb⟩; have n0_ := Aside0.mk (Kd.R_below u6_2 hb); have n1_ := Aside0.mk (blk_below (g := gb165) (o := .cells #[.string a1_0, .int .i64 a1_1, .string a1_2, .int .i64 a1_3, .int .i64 a1_4, .int .i64 a1_5, .int .i64 a1_6, .int .i64 a1_7] 30 (0, 0)) u6_1 hb); have n2_ := Aside0.mk (below_step u6_0 hb); clear HO168; clear BK165; clear HB; have HO168 := n0_; have BK165 := n1_; have HB := n2_; clear n0_ n1_ n2_; (try clear hb); (try clear hb2); (try clear hk); (try clear hi))); try go_wp2_with (first | (go_at_call 25; (with_reducible refine (impl_IsRig.calls k _ _ l0 true _ ?side1 ?side2 A7.out).mono ?_); (case side1 => exact y6_0); (case side2 => exact HC0.out); rintro e w32 ⟨rfl, hb⟩; have n0_ := Aside0.mk (Kd.R_below u6_2 hb); have n1_ := Aside0.mk (blk_below (g := gb165) (o := .cells #[.string a1_0, .int .i64 a1_1, .string a1_2, .int .i64 a1_3, .int .i64 a1_4, .int .i64 a1_5, .int .i64 a1_6, .int .i64 a1_7] 30 (0, 0)) u6_1 hb); have n2_ := Aside0.mk (below_step u6_0 hb); clear HO168; clear BK165; clear HB; have HO168 := n0_; have BK165 := n1_; have HB := n2_; clear n0_ n1_ n2_; (try clear hb); (try clear hb2); (try clear hk); (try clear hi); obtain ⟨hcz33_0, hcz33_1, hcz33_2, hcz33_3, hcz33_4, hcz33_5, hcz33_6, hcz33_7, hfz33_0, hfz33_1, hfz33_2, hfz33_3, hfz33_4, hfz33_5, hfz33_6, hfz33_7⟩ := cf8 BK165.out) | (go_at_call 18; (with_reducible refine (impl_IsDevice.calls k a1_0 a1_1 a1_2 a1_3 a1_4 a1_5 a1_6 a1_7 false _ A9.out).mono ?_); rintro e w34 ⟨rfl, hb⟩; have n0_ := Aside0.mk (Kd.R_below u6_2 hb); have n1_ := Aside0.mk (blk_below (g := gb165) (o := .cells #[.string a1_0, .int .i64 a1_1, .string a1_2, .int .i64 a1_3, .int .i64 a1_4, .int .i64 a1_5, .int .i64 a1_6, .int .i64 a1_7] 30 (0, 0)) u6_1 hb); have n2_ := Aside0.mk (below_step u6_0 hb); clear HO168; clear BK165; clear HB; have HO168 := n0_; have BK165 := n1_; have HB := n2_; clear n0_ n1_ n2_; (try clear hb); (try clear hb2); (try clear hk); (try clear hi))))
    go_meet
    case rel => exact ⟨_, (true), u6_5, H', ⟨by first | omega | exact Nat.le_refl _⟩, ⟨by (with_reducible repeat (first | apply Kd.R_alloc | apply Kd.R_drewN | apply Kd.R_drew)); exact Kd.R_mono HO168.out (fun _ hk => hk.2)⟩, ⟨by (with_reducible repeat (first | refine blk_drewN ?_ _ | refine blk_drew ?_ | refine blk_alloc ?_ _)); exact BK165.out⟩, ⟨s6_0⟩⟩
  ·replace c8 := Bool.eq_false_iff.mpr c8
   subst c8
   have H1 : (impl_AddDevice.j0 k l0 t166 true a1_0 a1_1 a1_2 a1_3 a1_4 a1_5 a1_6 a1_7) = some (r1, r2) := by rw [if_neg (show ¬ (false = true) by decide)] at H; exact H
   clear H
   have H := H1
   clear H1
   have H' := Aside0.mk H
   clear H
   go_wp2_with (first | (go_at_call 25; (with_reducible refine (impl_IsRig.calls k _ _ l0 false _ ?side1 ?side2 A7.out).mono ?_); (case side1 => exact y6_0); (case side2 => exact HC0.out); rintro e w35 ⟨rfl, hb⟩; have n0_ := Aside0.mk (Kd.R_below u6_2 hb); have n1_ := Aside0.mk (blk_below (g := gb165) (o := .cells #[.string a1_0, .int .i64 a1_1, .string a1_2, .int .i64 a1_3, .int .i64 a1_4, .int .i64 a1_5, .int .i64 a1_6, .int .i64 a1_7] 30 (0, 0)) u6_1 hb); have n2_ := Aside0.mk (below_step u6_0 hb); clear HO168; clear BK165; clear HB; have HO168 := n0_; have BK165 := n1_; have HB := n2_; clear n0_ n1_ n2_; (try clear hb); (try clear hb2); (try clear hk); (try clear hi)))
   repeat (go_quiet (first | (go_at_call 25; (with_reducible refine (impl_IsRig.calls k _ _ l0 false _ ?side1 ?side2 A7.out).mono ?_); (case side1 => exact y6_0); (case side2 => exact HC0.out); rintro e w35 ⟨rfl, hb⟩; have n0_ := Aside0.mk (Kd.R_below u6_2 hb); have n1_ := Aside0.mk (blk_below (g := gb165) (o := .cells #[.string a1_0, .int .i64 a1_1, .string a1_2, .int .i64 a1_3, .int .i64 a1_4, .int .i64 a1_5, .int .i64 a1_6, .int .i64 a1_7] 30 (0, 0)) u6_1 hb); have n2_ := Aside0.mk (below_step u6_0 hb); clear HO168; clear BK165; clear HB; have HO168 := n0_; have BK165 := n1_; have HB := n2_; clear n0_ n1_ n2_; (try clear hb); (try clear hb2); (try clear hk); (try clear hi))); try go_wp2_with (first | (go_at_call 25; (with_reducible refine (impl_IsRig.calls k _ _ l0 false _ ?side1 ?side2 A7.out).mono ?_); (case side1 => exact y6_0); (case side2 => exact HC0.out); rintro e w35 ⟨rfl, hb⟩; have n0_ := Aside0.mk (Kd.R_below u6_2 hb); have n1_ := Aside0.mk (blk_below (g := gb165) (o := .cells #[.string a1_0, .int .i64 a1_1, .string a1_2, .int .i64 a1_3, .int .i64 a1_4, .int .i64 a1_5, .int .i64 a1_6, .int .i64 a1_7] 30 (0, 0)) u6_1 hb); have n2_ := Aside0.mk (below_step u6_0 hb); clear HO168; clear BK165; clear HB; have HO168 := n0_; have BK165 := n1_; have HB := n2_; clear n0_ n1_ n2_; (try clear hb); (try clear hb2); (try clear hk); (try clear hi))))
   go_meet
   case rel => exact ⟨_, (true), u6_5, H', ⟨by first | omega | exact Nat.le_refl _⟩, ⟨by (with_reducible repeat (first | apply Kd.R_alloc | apply Kd.R_drewN | apply Kd.R_drew)); exact Kd.R_mono HO168.out (fun _ hk => hk.2)⟩, ⟨by (with_reducible repeat (first | refine blk_drewN ?_ _ | refine blk_drew ?_ | refine blk_alloc ?_ _)); exact BK165.out⟩, ⟨s6_0⟩⟩
 case rest =>
  clear HC4
  try clear c1
  try clear p2
  try clear c4
  try clear c8
  try clear c10
  try clear c12
  try clear c12b0
  try clear c18
  try clear c18b0
  try clear c18b1
  try clear hcz14_0
  try clear hcz14_1
  try clear hcz14_2
  try clear hcz14_3
  try clear hcz14_4
  try clear hcz14_5
  try clear hcz14_6
  try clear hcz14_7
  try clear hcz16_0
  try clear hcz16_1
  try clear hcz16_2
  try clear hcz16_3
  try clear hcz16_4
  try clear hcz16_5
  try clear hcz16_6
  try clear hcz16_7
  try clear hcz20_0
  try clear hcz20_1
  try clear hcz20_2
  try clear hcz20_3
  try clear hcz20_4
  try clear hcz20_5
  try clear hcz20_6
  try clear hcz20_7
  try clear hcz22_0
  try clear hcz22_1
  try clear hcz22_2
  try clear hcz22_3
  try clear hcz22_4
  try clear hcz22_5
  try clear hcz22_6
  try clear hcz22_7
  try clear hcz26_0
  try clear hcz26_1
  try clear hcz26_2
  try clear hcz26_3
  try clear hcz26_4
  try clear hcz26_5
  try clear hcz26_6
  try clear hcz26_7
  try clear hcz28_0
  try clear hcz28_1
  try clear hcz28_2
  try clear hcz28_3
  try clear hcz28_4
  try clear hcz28_5
  try clear hcz28_6
  try clear hcz28_7
  try clear hcz30_0
  try clear hcz30_1
  try clear hcz30_2
  try clear hcz30_3
  try clear hcz30_4
  try clear hcz30_5
  try clear hcz30_6
  try clear hcz30_7
  try clear hcz33_0
  try clear hcz33_1
  try clear hcz33_2
  try clear hcz33_3
  try clear hcz33_4
  try clear hcz33_5
  try clear hcz33_6
  try clear hcz33_7
  try clear hfz14_0
  try clear hfz14_1
  try clear hfz14_2
  try clear hfz14_3
  try clear hfz14_4
  try clear hfz14_5
  try clear hfz14_6
  try clear hfz14_7
  try clear hfz16_0
  try clear hfz16_1
  try clear hfz16_2
  try clear hfz16_3
  try clear hfz16_4
  try clear hfz16_5
  try clear hfz16_6
  try clear hfz16_7
  try clear hfz20_0
  try clear hfz20_1
  try clear hfz20_2
  try clear hfz20_3
  try clear hfz20_4
  try clear hfz20_5
  try clear hfz20_6
  try clear hfz20_7
  try clear hfz22_0
  try clear hfz22_1
  try clear hfz22_2
  try clear hfz22_3
  try clear hfz22_4
  try clear hfz22_5
  try clear hfz22_6
  try clear hfz22_7
  try clear hfz26_0
  try clear hfz26_1
  try clear hfz26_2
  try clear hfz26_3
  try clear hfz26_4
  try clear hfz26_5
  try clear hfz26_6
  try clear hfz26_7
  try clear hfz28_0
  try clear hfz28_1
  try clear hfz28_2
  try clear hfz28_3
  try clear hfz28_4
  try clear hfz28_5
  try clear hfz28_6
  try clear hfz28_7
  try clear hfz30_0
  try clear hfz30_1
  try clear hfz30_2
  try clear hfz30_3
  try clear hfz30_4
  try clear hfz30_5
  try clear hfz30_6
  try clear hfz30_7
  try clear hfz33_0
  try clear hfz33_1
  try clear hfz33_2
  try clear hfz33_3
  try clear hfz33_4
  try clear hfz33_5
  try clear hfz33_6
  try clear hfz33_7
  obtain ⟨kq, x35_3, rfl, HA, HJ3, HO_6, BK165, HB⟩ := hcut
  cases kq with
  | zero => exact absurd HA.out (by simp [impl_AddDevice.j0])
  | succ kj3 =>
   have H := HA.out
   clear HA
   simp only [impl_AddDevice.j0] at H
   by_cases c36 : x35_3 = true
   ·subst c36
    have H1 : (some (t166, false)) = some (r1, r2) := by rw [if_pos rfl] at H; exact H
    clear H
    have H := H1
    clear H1
    simp only [Option.some.injEq, Prod.mk.injEq] at H
    obtain ⟨rfl, rfl⟩ := H
    go_wp2
    repeat (go_quiet (fail); try go_wp2)
    go_ret2
    exact ⟨_, by first | rfl | (simp [*] <;> rfl), by (with_reducible repeat (first | apply Kd.R_alloc | apply Kd.R_drewN | apply Kd.R_drew)); exact Kd.R_mono HO_6.out (fun _ hk => trivial), s6_0⟩
   ·replace c36 := Bool.eq_false_iff.mpr c36
    subst c36
    have H1 : (impl_AddDevice.l0 kj3 l0 t166 0 a1_0 a1_1 a1_2 a1_3 a1_4 a1_5 a1_6 a1_7) = some (r1, r2) := by rw [if_neg (show ¬ (false = true) by decide)] at H; exact H
    clear H
    have H := H1
    clear H1
    have H' := Aside0.mk H
    clear H
    go_wp2
    repeat (go_quiet (fail); try go_wp2)
    go_loopg [7] kj3 (fun kq v7 w' => ∃ (x7_2 : Int), v7 = .int .i64 x7_2 ∧ Aside0 (impl_AddDevice.l0 kq l0 t166 x7_2 a1_0 a1_1 a1_2 a1_3 a1_4 a1_5 a1_6 a1_7 = some (r1, r2)) ∧ Aside0 (kq ≤ kj3) ∧ Aside0 (Kd.R k30 30 w' w.heap.size (fun k_ => k_ ≠ gb165) v167 t166) ∧ Aside0 (w'.heap[gb165]? = some (.cells #[.string a1_0, .int .i64 a1_1, .string a1_2, .int .i64 a1_3, .int .i64 a1_4, .int .i64 a1_5, .int .i64 a1_6, .int .i64 a1_7] 30 (0, 0))) ∧ Aside0 (Below w.heap.size w w'))
    case atStart => exact ⟨(0), u6_5, H', ⟨Nat.le_refl _⟩, ⟨by (with_reducible repeat (first | apply Kd.R_alloc | apply Kd.R_drewN | apply Kd.R_drew)); exact HO_6.out⟩, ⟨by (with_reducible repeat (first | refine blk_drewN ?_ _ | refine blk_drew ?_ | refine blk_alloc ?_ _)); exact BK165.out⟩, ⟨s6_0⟩⟩
    case round =>
     clear H'
     try clear c1
     try clear p2
     try clear c3
     try clear c4
     try clear c8
     try clear c10
     try clear c12
     try clear c12b0
     try clear c18
     try clear c18b0
     try clear c18b1
     try clear c36
     try clear hcz14_0
     try clear hcz14_1
     try clear hcz14_2
     try clear hcz14_3
     try clear hcz14_4
     try clear hcz14_5
     try clear hcz14_6
     try clear hcz14_7
     try clear hcz16_0
     try clear hcz16_1
     try clear hcz16_2
     try clear hcz16_3
     try clear hcz16_4
     try clear hcz16_5
     try clear hcz16_6
     try clear hcz16_7
     try clear hcz20_0
     try clear hcz20_1
     try clear hcz20_2
     try clear hcz20_3
     try clear hcz20_4
     try clear hcz20_5
     try clear hcz20_6
     try clear hcz20_7
     try clear hcz22_0
     try clear hcz22_1
     try clear hcz22_2
     try clear hcz22_3
     try clear hcz22_4
     try clear hcz22_5
     try clear hcz22_6
     try clear hcz22_7
     try clear hcz26_0
     try clear hcz26_1
     try clear hcz26_2
     try clear hcz26_3
     try clear hcz26_4
     try clear hcz26_5
     try clear hcz26_6
     try clear hcz26_7
     try clear hcz28_0
     try clear hcz28_1
     try clear hcz28_2
     try clear hcz28_3
     try clear hcz28_4
     try clear hcz28_5
     try clear hcz28_6
     try clear hcz28_7
     try clear hcz30_0
     try clear hcz30_1
     try clear hcz30_2
     try clear hcz30_3
     try clear hcz30_4
     try clear hcz30_5
     try clear hcz30_6
     try clear hcz30_7
     try clear hcz33_0
     try clear hcz33_1
     try clear hcz33_2
     try clear hcz33_3
     try clear hcz33_4
     try clear hcz33_5
     try clear hcz33_6
     try clear hcz33_7
     try clear hfz14_0
     try clear hfz14_1
     try clear hfz14_2
     try clear hfz14_3
     try clear hfz14_4
     try clear hfz14_5
     try clear hfz14_6
     try clear hfz14_7
     try clear hfz16_0
     try clear hfz16_1
     try clear hfz16_2
     try clear hfz16_3
     try clear hfz16_4
     try clear hfz16_5
     try clear hfz16_6
     try clear hfz16_7
     try clear hfz20_0
     try clear hfz20_1
     try clear hfz20_2
     try clear hfz20_3
     try clear hfz20_4
     try clear hfz20_5
     try clear hfz20_6
     try clear hfz20_7
     try clear hfz22_0
     try clear hfz22_1
     try clear hfz22_2
     try clear hfz22_3
     try clear hfz22_4
     try clear hfz22_5
     try clear hfz22_6
     try clear hfz22_7
     try clear hfz26_0
     try clear hfz26_1
     try clear hfz26_2
     try clear hfz26_3
     try clear hfz26_4
     try clear hfz26_5
     try clear hfz26_6
     try clear hfz26_7
     try clear hfz28_0
     try clear hfz28_1
     try clear hfz28_2
     try clear hfz28_3
     try clear hfz28_4
     try clear hfz28_5
     try clear hfz28_6
     try clear hfz28_7
     try clear hfz30_0
     try clear hfz30_1
     try clear hfz30_2
     try clear hfz30_3
     try clear hfz30_4
     try clear hfz30_5
     try clear hfz30_6
     try clear hfz30_7
     try clear hfz33_0
     try clear hfz33_1
     try clear hfz33_2
     try clear hfz33_3
     try clear hfz33_4
     try clear hfz33_5
     try clear hfz33_6
     try clear hfz33_7
     try clear p2
     obtain ⟨x7_2, rfl, HA, HK2, HO_6, BK165, HB⟩ := hrel
     cases gk with
     | zero => exact absurd HA.out (by simp [impl_AddDevice.l0])
     | succ k2 =>
      have H := HA.out
      clear HA
      simp only [impl_AddDevice.l0] at H
      by_cases c37 : x7_2 < (l0.length : Int)
      ·rw [if_pos c37] at H
       have c37b0 : decide (x7_2 < (l0.length : Int)) = true := decide_eq_true c37
       clear c37
       by_cases c38 : 0 ≤ x7_2
       ·rw [if_pos c38] at H
        have c38b0 : decide (0 ≤ x7_2) = true := decide_eq_true c38
        clear c38
        by_cases c39 : (Op.bytesLess (((rd_T30 l0 x7_2).f0).toList) a1_0.toList) = true
        ·rw [if_pos c39] at H
         have c39b0 : (Op.bytesLess (((rd_T30 l0 x7_2).f0).toList) a1_0.toList) = true := c39
         clear c39
         have H' := Aside0.mk H
         clear H
         have p173 : 0 ≤ (x7_2 : Int) := of_decide_eq_true (by assumption)
         have q173 : x7_2 < (l0.length : Int) := of_decide_eq_true (by assumption)
         obtain ⟨ad173, e173, hx173_0, hx173_1, hx173_2, hx173_3, hx173_4, hx173_5, hx173_6, hx173_7⟩ := at_T30 (Kd.C_below HR0.out HB.out) x7_2 p173 q173
         cases e173
         replace p173 := eq_true p173
         replace q173 := eq_true q173
         obtain ⟨hcz40_0, hcz40_1, hcz40_2, hcz40_3, hcz40_4, hcz40_5, hcz40_6, hcz40_7, hfz40_0, hfz40_1, hfz40_2, hfz40_3, hfz40_4, hfz40_5, hfz40_6, hfz40_7⟩ := cf8 BK165.out
         go_wp2
         repeat (go_quiet (fail); try go_wp2)
         go_roundg k2
         case measure => have := HJ3.out; have := HK2.out; omega
         case rel => exact ⟨(wrap64 (x7_2 + 1)), u6_5, H', ⟨by have := HJ3.out; have := HK2.out; omega⟩, ⟨by (with_reducible repeat (first | apply Kd.R_alloc | apply Kd.R_drewN | apply Kd.R_drew)); exact HO_6.out⟩, ⟨by (with_reducible repeat (first | refine blk_drewN ?_ _ | refine blk_drew ?_ | refine blk_alloc ?_ _)); exact BK165.out⟩, ⟨s6_0⟩⟩
        ·rw [if_neg c39] at H
         have c39b0 : (Op.bytesLess (((rd_T30 l0 x7_2).f0).toList) a1_0.toList) = false := by simpa using c39
         clear c39
         obtain ⟨y174, hy174⟩ : ∃ y_ : List (S30), y_ = (([(⟨a1_0, a1_1, a1_2, (⟨a1_3, a1_4⟩ : S28), a1_5, a1_6, a1_7⟩ : S30)] : List (S30))) := ⟨_, rfl⟩
         replace H : ((insRow t166 x7_2 y174).bind fun t177 => (some (t177, true))) = some (r1, r2) := by first | (rw [hy174]; with_reducible exact H) | (have H2_ := (Option.bind_some _ _).symm.trans H; rw [hy174]; with_reducible exact H2_) | (have H2_ := (Option.bind_some _ _).symm.trans H; with_reducible exact H2_) | with_reducible exact H | (rw [hy174]; exact H) | exact H
         have Ny174 := Aside0.mk hy174
         clear hy174
         replace H := Option.bind_eq_some_iff.mp H
         obtain ⟨t177, A410, H⟩ := H
         replace H : (some (t177, true)) = some (r1, r2) := H
         have A41 := Aside0.mk A410
         clear A410
         simp only [Option.some.injEq, Prod.mk.injEq] at H
         obtain ⟨rfl, rfl⟩ := H
         have p173 : 0 ≤ (x7_2 : Int) := of_decide_eq_true (by assumption)
         have q173 : x7_2 < (l0.length : Int) := of_decide_eq_true (by assumption)
         obtain ⟨ad173, e173, hx173_0, hx173_1, hx173_2, hx173_3, hx173_4, hx173_5, hx173_6, hx173_7⟩ := at_T30 (Kd.C_below HR0.out HB.out) x7_2 p173 q173
         cases e173
         replace p173 := eq_true p173
         replace q173 := eq_true q173
         obtain ⟨hcz42_0, hcz42_1, hcz42_2, hcz42_3, hcz42_4, hcz42_5, hcz42_6, hcz42_7, hfz42_0, hfz42_1, hfz42_2, hfz42_3, hfz42_4, hfz42_5, hfz42_6, hfz42_7⟩ := cf8 BK165.out
         go_wp2_with (first | ((with_reducible refine gate_dst (N := 56) rfl ?_); (try (refine gate_guard (by rfl) ?_; dsimp only)); refine Kd.R_lit k30 _ 30 ?hg (N := 56) ?hd (xs := ([(⟨a1_0, a1_1, a1_2, (⟨a1_3, a1_4⟩ : S28), a1_5, a1_6, a1_7⟩ : S30)] : List (S30))) (inner := [.string a1_0, .int .i64 a1_1, .string a1_2, .int .i64 a1_3, .int .i64 a1_4, .int .i64 a1_5, .int .i64 a1_6, .int .i64 a1_7]) (ok := fun _ => True) (okp := fun _ => True) ?hr ?hp (fun _ hk => hk) trivial (Below.refl _ _) (Nat.le_refl _) (by simp) ?_; (case hd => rfl); (case hg => rfl); (case hr => exact gq); (case hp => exact (Reps.c8 (show Kd.M k30 _ _ _ (⟨a1_0, a1_1, a1_2, (⟨a1_3, a1_4⟩ : S28), a1_5, a1_6, a1_7⟩ : S30) [.string a1_0, .int .i64 a1_1, .string a1_2, .int .i64 a1_3, .int .i64 a1_4, .int .i64 a1_5, .int .i64 a1_6, .int .i64 a1_7] from (k30_mkM _ _ _ (⟨a1_0, a1_1, a1_2, (⟨a1_3, a1_4⟩ : S28), a1_5, a1_6, a1_7⟩ : S30) )) (Reps.none _ _))); intro v175 w43 ho44 hb hg_ hnew_; clear hg_ hnew_; (first | rw [← Ny174.out] at ho44 | (simp only [Int.reduceToNat] at ho44; rw [← Ny174.out] at ho44)); have n0_ := Aside0.mk (Kd.R_elder' u6_3 (Kd.R_base ho44) hb); have n1_ := Aside0.mk (Kd.R_lower (Kd.R_newB (Kd.R_new' ho44 (Kd.R_lt u6_3)) (g := gb165) (o := .cells #[.string a1_0, .int .i64 a1_1, .string a1_2, .int .i64 a1_3, .int .i64 a1_4, .int .i64 a1_5, .int .i64 a1_6, .int .i64 a1_7] 30 (0, 0)) u6_1) (below_size u6_0)); have n2_ := Aside0.mk (blk_below (g := gb165) (o := .cells #[.string a1_0, .int .i64 a1_1, .string a1_2, .int .i64 a1_3, .int .i64 a1_4, .int .i64 a1_5, .int .i64 a1_6, .int .i64 a1_7] 30 (0, 0)) u6_1 hb); have n3_ := Aside0.mk (below_step u6_0 hb); clear HO_6; clear BK165; clear HB; have HO_6 := n0_; have HO176 := n1_; have BK165 := n2_; have HB := n3_; clear n0_ n1_ n2_ n3_; clear hb ho44; obtain ⟨Ao45, co45, eo45⟩ := Kd.R_slice HO_6.out; subst eo45) | (go_at_call 76; refine (insRow_calls _ _ _ _ _ _ t166 y174 x7_2 t177 _ u6_3 u6_8 (fun k_ hk_ => by have := HO176.out.1 k_ hk_; simp_all) (Below.size u6_0) A41.out).mono ?_; rintro e w46 ⟨v178, rfl, ho0, hb⟩; have n2_ := Aside0.mk ho0; have n3_ := Aside0.mk (Below.trans u6_0 hb); clear HB; have HO179 := n2_; have HB := n3_; clear n2_ n3_; (try clear hb); (try clear ho0)))
         repeat (go_quiet (first | ((with_reducible refine gate_dst (N := 56) rfl ?_); (try (refine gate_guard (by rfl) ?_; dsimp only)); refine Kd.R_lit k30 _ 30 ?hg (N := 56) ?hd (xs := ([(⟨a1_0, a1_1, a1_2, (⟨a1_3, a1_4⟩ : S28), a1_5, a1_6, a1_7⟩ : S30)] : List (S30))) (inner := [.string a1_0, .int .i64 a1_1, .string a1_2, .int .i64 a1_3, .int .i64 a1_4, .int .i64 a1_5, .int .i64 a1_6, .int .i64 a1_7]) (ok := fun _ => True) (okp := fun _ => True) ?hr ?hp (fun _ hk => hk) trivial (Below.refl _ _) (Nat.le_refl _) (by simp) ?_; (case hd => rfl); (case hg => rfl); (case hr => exact gq); (case hp => exact (Reps.c8 (show Kd.M k30 _ _ _ (⟨a1_0, a1_1, a1_2, (⟨a1_3, a1_4⟩ : S28), a1_5, a1_6, a1_7⟩ : S30) [.string a1_0, .int .i64 a1_1, .string a1_2, .int .i64 a1_3, .int .i64 a1_4, .int .i64 a1_5, .int .i64 a1_6, .int .i64 a1_7] from (k30_mkM _ _ _ (⟨a1_0, a1_1, a1_2, (⟨a1_3, a1_4⟩ : S28), a1_5, a1_6, a1_7⟩ : S30) )) (Reps.none _ _))); intro v175 w43 ho44 hb hg_ hnew_; clear hg_ hnew_; (first | rw [← Ny174.out] at ho44 | (simp only [Int.reduceToNat] at ho44; rw [← Ny174.out] at ho44)); have n0_ := Aside0.mk (Kd.R_elder' u6_3 (Kd.R_base ho44) hb); have n1_ := Aside0.mk (Kd.R_lower (Kd.R_newB (Kd.R_new' ho44 (Kd.R_lt u6_3)) (g := gb165) (o := .cells #[.string a1_0, .int .i64 a1_1, .string a1_2, .int .i64 a1_3, .int .i64 a1_4, .int .i64 a1_5, .int .i64 a1_6, .int .i64 a1_7] 30 (0, 0)) u6_1) (below_size u6_0)); have n2_ := Aside0.mk (blk_below (g := gb165) (o := .cells #[.string a1_0, .int .i64 a1_1, .string a1_2, .int .i64 a1_3, .int .i64 a1_4, .int .i64 a1_5, .int .i64 a1_6, .int .i64 a1_7] 30 (0, 0)) u6_1 hb); have n3_ := Aside0.mk (below_step u6_0 hb); clear HO_6; clear BK165; clear HB; have HO_6 := n0_; have HO176 := n1_; have BK165 := n2_; have HB := n3_; clear n0_ n1_ n2_ n3_; clear hb ho44; obtain ⟨Ao45, co45, eo45⟩ := Kd.R_slice HO_6.out; subst eo45) | (go_at_call 76; refine (insRow_calls _ _ _ _ _ _ t166 y174 x7_2 t177 _ u6_3 u6_8 (fun k_ hk_ => by have := HO176.out.1 k_ hk_; simp_all) (Below.size u6_0) A41.out).mono ?_; rintro e w46 ⟨v178, rfl, ho0, hb⟩; have n2_ := Aside0.mk ho0; have n3_ := Aside0.mk (Below.trans u6_0 hb); clear HB; have HO179 := n2_; have HB := n3_; clear n2_ n3_; (try clear hb); (try clear ho0))); try go_wp2_with (first | ((with_reducible refine gate_dst (N := 56) rfl ?_); (try (refine gate_guard (by rfl) ?_; dsimp only)); refine Kd.R_lit k30 _ 30 ?hg (N := 56) ?hd (xs := ([(⟨a1_0, a1_1, a1_2, (⟨a1_3, a1_4⟩ : S28), a1_5, a1_6, a1_7⟩ : S30)] : List (S30))) (inner := [.string a1_0, .int .i64 a1_1, .string a1_2, .int .i64 a1_3, .int .i64 a1_4, .int .i64 a1_5, .int .i64 a1_6, .int .i64 a1_7]) (ok := fun _ => True) (okp := fun _ => True) ?hr ?hp (fun _ hk => hk) trivial (Below.refl _ _) (Nat.le_refl _) (by simp) ?_; (case hd => rfl); (case hg => rfl); (case hr => exact gq); (case hp => exact (Reps.c8 (show Kd.M k30 _ _ _ (⟨a1_0, a1_1, a1_2, (⟨a1_3, a1_4⟩ : S28), a1_5, a1_6, a1_7⟩ : S30) [.string a1_0, .int .i64 a1_1, .string a1_2, .int .i64 a1_3, .int .i64 a1_4, .int .i64 a1_5, .int .i64 a1_6, .int .i64 a1_7] from (k30_mkM _ _ _ (⟨a1_0, a1_1, a1_2, (⟨a1_3, a1_4⟩ : S28), a1_5, a1_6, a1_7⟩ : S30) )) (Reps.none _ _))); intro v175 w43 ho44 hb hg_ hnew_; clear hg_ hnew_; (first | rw [← Ny174.out] at ho44 | (simp only [Int.reduceToNat] at ho44; rw [← Ny174.out] at ho44)); have n0_ := Aside0.mk (Kd.R_elder' u6_3 (Kd.R_base ho44) hb); have n1_ := Aside0.mk (Kd.R_lower (Kd.R_newB (Kd.R_new' ho44 (Kd.R_lt u6_3)) (g := gb165) (o := .cells #[.string a1_0, .int .i64 a1_1, .string a1_2, .int .i64 a1_3, .int .i64 a1_4, .int .i64 a1_5, .int .i64 a1_6, .int .i64 a1_7] 30 (0, 0)) u6_1) (below_size u6_0)); have n2_ := Aside0.mk (blk_below (g := gb165) (o := .cells #[.string a1_0, .int .i64 a1_1, .string a1_2, .int .i64 a1_3, .int .i64 a1_4, .int .i64 a1_5, .int .i64 a1_6, .int .i64 a1_7] 30 (0, 0)) u6_1 hb); have n3_ := Aside0.mk (below_step u6_0 hb); clear HO_6; clear BK165; clear HB; have HO_6 := n0_; have HO176 := n1_; have BK165 := n2_; have HB := n3_; clear n0_ n1_ n2_ n3_; clear hb ho44; obtain ⟨Ao45, co45, eo45⟩ := Kd.R_slice HO_6.out; subst eo45) | (go_at_call 76; refine (insRow_calls _ _ _ _ _ _ t166 y174 x7_2 t177 _ u6_3 u6_8 (fun k_ hk_ => by have := HO176.out.1 k_ hk_; simp_all) (Below.size u6_0) A41.out).mono ?_; rintro e w46 ⟨v178, rfl, ho0, hb⟩; have n2_ := Aside0.mk ho0; have n3_ := Aside0.mk (Below.trans u6_0 hb); clear HB; have HO179 := n2_; have HB := n3_; clear n2_ n3_; (try clear hb); (try clear ho0))))
         go_ret2
         exact ⟨_, by first | rfl | (simp [*] <;> rfl), by (with_reducible repeat (first | apply Kd.R_alloc | apply Kd.R_drewN | apply Kd.R_drew)); exact Kd.R_mono HO179.out (fun _ hk => trivial), s6_0⟩
       ·rw [if_neg c38] at H
        exact absurd H (by simp)
      ·rw [if_neg c37] at H
       have c37b0 : decide (x7_2 < (l0.length : Int)) = false := decide_eq_false c37
       clear c37
       obtain ⟨y180, hy180⟩ : ∃ y_ : List (S30), y_ = (([(⟨a1_0, a1_1, a1_2, (⟨a1_3, a1_4⟩ : S28), a1_5, a1_6, a1_7⟩ : S30)] : List (S30))) := ⟨_, rfl⟩
       replace H : ((insRow t166 x7_2 y180).bind fun t183 => (some (t183, true))) = some (r1, r2) := by first | (rw [hy180]; with_reducible exact H) | (have H2_ := (Option.bind_some _ _).symm.trans H; rw [hy180]; with_reducible exact H2_) | (have H2_ := (Option.bind_some _ _).symm.trans H; with_reducible exact H2_) | with_reducible exact H | (rw [hy180]; exact H) | exact H
       have Ny180 := Aside0.mk hy180
       clear hy180
       replace H := Option.bind_eq_some_iff.mp H
       obtain ⟨t183, A470, H⟩ := H
       replace H : (some (t183, true)) = some (r1, r2) := H
       have A47 := Aside0.mk A470
       clear A470
       simp only [Option.some.injEq, Prod.mk.injEq] at H
       obtain ⟨rfl, rfl⟩ := H
       obtain ⟨hcz48_0, hcz48_1, hcz48_2, hcz48_3, hcz48_4, hcz48_5, hcz48_6, hcz48_7, hfz48_0, hfz48_1, hfz48_2, hfz48_3, hfz48_4, hfz48_5, hfz48_6, hfz48_7⟩ := cf8 BK165.out
       go_wp2_with (first | ((with_reducible refine gate_dst (N := 56) rfl ?_); (try (refine gate_guard (by rfl) ?_; dsimp only)); refine Kd.R_lit k30 _ 30 ?hg (N := 56) ?hd (xs := ([(⟨a1_0, a1_1, a1_2, (⟨a1_3, a1_4⟩ : S28), a1_5, a1_6, a1_7⟩ : S30)] : List (S30))) (inner := [.string a1_0, .int .i64 a1_1, .string a1_2, .int .i64 a1_3, .int .i64 a1_4, .int .i64 a1_5, .int .i64 a1_6, .int .i64 a1_7]) (ok := fun _ => True) (okp := fun _ => True) ?hr ?hp (fun _ hk => hk) trivial (Below.refl _ _) (Nat.le_refl _) (by simp) ?_; (case hd => rfl); (case hg => rfl); (case hr => exact gq); (case hp => exact (Reps.c8 (show Kd.M k30 _ _ _ (⟨a1_0, a1_1, a1_2, (⟨a1_3, a1_4⟩ : S28), a1_5, a1_6, a1_7⟩ : S30) [.string a1_0, .int .i64 a1_1, .string a1_2, .int .i64 a1_3, .int .i64 a1_4, .int .i64 a1_5, .int .i64 a1_6, .int .i64 a1_7] from (k30_mkM _ _ _ (⟨a1_0, a1_1, a1_2, (⟨a1_3, a1_4⟩ : S28), a1_5, a1_6, a1_7⟩ : S30) )) (Reps.none _ _))); intro v181 w49 ho50 hb hg_ hnew_; clear hg_ hnew_; (first | rw [← Ny180.out] at ho50 | (simp only [Int.reduceToNat] at ho50; rw [← Ny180.out] at ho50)); have n0_ := Aside0.mk (Kd.R_elder' u6_3 (Kd.R_base ho50) hb); have n1_ := Aside0.mk (Kd.R_lower (Kd.R_newB (Kd.R_new' ho50 (Kd.R_lt u6_3)) (g := gb165) (o := .cells #[.string a1_0, .int .i64 a1_1, .string a1_2, .int .i64 a1_3, .int .i64 a1_4, .int .i64 a1_5, .int .i64 a1_6, .int .i64 a1_7] 30 (0, 0)) u6_1) (below_size u6_0)); have n2_ := Aside0.mk (blk_below (g := gb165) (o := .cells #[.string a1_0, .int .i64 a1_1, .string a1_2, .int .i64 a1_3, .int .i64 a1_4, .int .i64 a1_5, .int .i64 a1_6, .int .i64 a1_7] 30 (0, 0)) u6_1 hb); have n3_ := Aside0.mk (below_step u6_0 hb); clear HO_6; clear BK165; clear HB; have HO_6 := n0_; have HO182 := n1_; have BK165 := n2_; have HB := n3_; clear n0_ n1_ n2_ n3_; clear hb ho50; obtain ⟨Ao51, co51, eo51⟩ := Kd.R_slice HO_6.out; subst eo51) | (go_at_call 76; refine (insRow_calls _ _ _ _ _ _ t166 y180 x7_2 t183 _ u6_3 u6_7 (fun k_ hk_ => by have := HO182.out.1 k_ hk_; simp_all) (Below.size u6_0) A47.out).mono ?_; rintro e w52 ⟨v184, rfl, ho0, hb⟩; have n2_ := Aside0.mk ho0; have n3_ := Aside0.mk (Below.trans u6_0 hb); clear HB; have HO185 := n2_; have HB := n3_; clear n2_ n3_; (try clear hb); (try clear ho0)))
       repeat (go_quiet (first | ((with_reducible refine gate_dst (N := 56) rfl ?_); (try (refine gate_guard (by rfl) ?_; dsimp only)); refine Kd.R_lit k30 _ 30 ?hg (N := 56) ?hd (xs := ([(⟨a1_0, a1_1, a1_2, (⟨a1_3, a1_4⟩ : S28), a1_5, a1_6, a1_7⟩ : S30)] : List (S30))) (inner := [.string a1_0, .int .i64 a1_1, .string a1_2, .int .i64 a1_3, .int .i64 a1_4, .int .i64 a1_5, .int .i64 a1_6, .int .i64 a1_7]) (ok := fun _ => True) (okp := fun _ => True) ?hr ?hp (fun _ hk => hk) trivial (Below.refl _ _) (Nat.le_refl _) (by simp) ?_; (case hd => rfl); (case hg => rfl); (case hr => exact gq); (case hp => exact (Reps.c8 (show Kd.M k30 _ _ _ (⟨a1_0, a1_1, a1_2, (⟨a1_3, a1_4⟩ : S28), a1_5, a1_6, a1_7⟩ : S30) [.string a1_0, .int .i64 a1_1, .string a1_2, .int .i64 a1_3, .int .i64 a1_4, .int .i64 a1_5, .int .i64 a1_6, .int .i64 a1_7] from (k30_mkM _ _ _ (⟨a1_0, a1_1, a1_2, (⟨a1_3, a1_4⟩ : S28), a1_5, a1_6, a1_7⟩ : S30) )) (Reps.none _ _))); intro v181 w49 ho50 hb hg_ hnew_; clear hg_ hnew_; (first | rw [← Ny180.out] at ho50 | (simp only [Int.reduceToNat] at ho50; rw [← Ny180.out] at ho50)); have n0_ := Aside0.mk (Kd.R_elder' u6_3 (Kd.R_base ho50) hb); have n1_ := Aside0.mk (Kd.R_lower (Kd.R_newB (Kd.R_new' ho50 (Kd.R_lt u6_3)) (g := gb165) (o := .cells #[.string a1_0, .int .i64 a1_1, .string a1_2, .int .i64 a1_3, .int .i64 a1_4, .int .i64 a1_5, .int .i64 a1_6, .int .i64 a1_7] 30 (0, 0)) u6_1) (below_size u6_0)); have n2_ := Aside0.mk (blk_below (g := gb165) (o := .cells #[.string a1_0, .int .i64 a1_1, .string a1_2, .int .i64 a1_3, .int .i64 a1_4, .int .i64 a1_5, .int .i64 a1_6, .int .i64 a1_7] 30 (0, 0)) u6_1 hb); have n3_ := Aside0.mk (below_step u6_0 hb); clear HO_6; clear BK165; clear HB; have HO_6 := n0_; have HO182 := n1_; have BK165 := n2_; have HB := n3_; clear n0_ n1_ n2_ n3_; clear hb ho50; obtain ⟨Ao51, co51, eo51⟩ := Kd.R_slice HO_6.out; subst eo51) | (go_at_call 76; refine (insRow_calls _ _ _ _ _ _ t166 y180 x7_2 t183 _ u6_3 u6_7 (fun k_ hk_ => by have := HO182.out.1 k_ hk_; simp_all) (Below.size u6_0) A47.out).mono ?_; rintro e w52 ⟨v184, rfl, ho0, hb⟩; have n2_ := Aside0.mk ho0; have n3_ := Aside0.mk (Below.trans u6_0 hb); clear HB; have HO185 := n2_; have HB := n3_; clear n2_ n3_; (try clear hb); (try clear ho0))); try go_wp2_with (first | ((with_reducible refine gate_dst (N := 56) rfl ?_); (try (refine gate_guard (by rfl) ?_; dsimp only)); refine Kd.R_lit k30 _ 30 ?hg (N := 56) ?hd (xs := ([(⟨a1_0, a1_1, a1_2, (⟨a1_3, a1_4⟩ : S28), a1_5, a1_6, a1_7⟩ : S30)] : List (S30))) (inner := [.string a1_0, .int .i64 a1_1, .string a1_2, .int .i64 a1_3, .int .i64 a1_4, .int .i64 a1_5, .int .i64 a1_6, .int .i64 a1_7]) (ok := fun _ => True) (okp := fun _ => True) ?hr ?hp (fun _ hk => hk) trivial (Below.refl _ _) (Nat.le_refl _) (by simp) ?_; (case hd => rfl); (case hg => rfl); (case hr => exact gq); (case hp => exact (Reps.c8 (show Kd.M k30 _ _ _ (⟨a1_0, a1_1, a1_2, (⟨a1_3, a1_4⟩ : S28), a1_5, a1_6, a1_7⟩ : S30) [.string a1_0, .int .i64 a1_1, .string a1_2, .int .i64 a1_3, .int .i64 a1_4, .int .i64 a1_5, .int .i64 a1_6, .int .i64 a1_7] from (k30_mkM _ _ _ (⟨a1_0, a1_1, a1_2, (⟨a1_3, a1_4⟩ : S28), a1_5, a1_6, a1_7⟩ : S30) )) (Reps.none _ _))); intro v181 w49 ho50 hb hg_ hnew_; clear hg_ hnew_; (first | rw [← Ny180.out] at ho50 | (simp only [Int.reduceToNat] at ho50; rw [← Ny180.out] at ho50)); have n0_ := Aside0.mk (Kd.R_elder' u6_3 (Kd.R_base ho50) hb); have n1_ := Aside0.mk (Kd.R_lower (Kd.R_newB (Kd.R_new' ho50 (Kd.R_lt u6_3)) (g := gb165) (o := .cells #[.string a1_0, .int .i64 a1_1, .string a1_2, .int .i64 a1_3, .int .i64 a1_4, .int .i64 a1_5, .int .i64 a1_6, .int .i64 a1_7] 30 (0, 0)) u6_1) (below_size u6_0)); have n2_ := Aside0.mk (blk_below (g := gb165) (o := .cells #[.string a1_0, .int .i64 a1_1, .string a1_2, .int .i64 a1_3, .int .i64 a1_4, .int .i64 a1_5, .int .i64 a1_6, .int .i64 a1_7] 30 (0, 0)) u6_1 hb); have n3_ := Aside0.mk (below_step u6_0 hb); clear HO_6; clear BK165; clear HB; have HO_6 := n0_; have HO182 := n1_; have BK165 := n2_; have HB := n3_; clear n0_ n1_ n2_ n3_; clear hb ho50; obtain ⟨Ao51, co51, eo51⟩ := Kd.R_slice HO_6.out; subst eo51) | (go_at_call 76; refine (insRow_calls _ _ _ _ _ _ t166 y180 x7_2 t183 _ u6_3 u6_7 (fun k_ hk_ => by have := HO182.out.1 k_ hk_; simp_all) (Below.size u6_0) A47.out).mono ?_; rintro e w52 ⟨v184, rfl, ho0, hb⟩; have n2_ := Aside0.mk ho0; have n3_ := Aside0.mk (Below.trans u6_0 hb); clear HB; have HO185 := n2_; have HB := n3_; clear n2_ n3_; (try clear hb); (try clear ho0))))
       go_ret2
       exact ⟨_, by first | rfl | (simp [*] <;> rfl), by (with_reducible repeat (first | apply Kd.R_alloc | apply Kd.R_drewN | apply Kd.R_drew)); exact Kd.R_mono HO185.out (fun _ hk => trivial), s6_0⟩

def IsS95 (w0 W : World) (g : Nat) (f0 : List Int) (f1 : Int) (f2 : Int) : Prop := ∃ A0 c0, W.heap[g]? = some (.cells #[.slice A0 f0.length c0, .int .i64 f1, .int .i64 f2] 95 (0, 0)) ∧ w0.heap.size ≤ g ∧ Kd.C (Kd.int .u8) w0 A0 f0.length f0
theorem IsS95.grown {w0 W : World} {g : Nat} {f0 : List Int} {f1 : Int} {f2 : Int} {W1 : World} {row : Option Nat} (h : IsS95 w0 W g f0 f1 f2) (hw : W.grownBy W1 row) (hne : some g ≠ row) : IsS95 w0 W1 g f0 f1 f2 := by
 obtain ⟨A0, c0, hb, hg, hr0⟩ := h
 exact ⟨A0, c0, blk_grown hb hw hne, hg, hr0⟩
theorem IsS95.own_neN {w0 W : World} {g : Nat} {f0 : List Int} {f1 : Int} {f2 : Int} {α : Type} {d : Kd α} {e : Nat} {base : Nat} {ok : Nat → Prop} {v : Value} {xs : List α} (h : IsS95 w0 W g f0 f1 f2) (ho : Kd.N d e W base ok v xs) (ht : e ≠ 95) : some g ≠ v.ownBlock := by
 obtain ⟨A0, c0, hb, hg, hr0⟩ := h
 exact Kd.N_ne ho hb ht
theorem IsS95.fresh {w0 W : World} {g : Nat} {f0 : List Int} {f1 : Int} {f2 : Int} (h : IsS95 w0 W g f0 f1 f2) : ∀ k, W.heap.size ≤ k → k ≠ g := by
 obtain ⟨A0, c0, hb, hg, hr0⟩ := h
 exact Kd.freshB hb
theorem IsS95.kept {w0 W : World} {g : Nat} {f0 : List Int} {f1 : Int} {f2 : Int} {W1 : World} {S : Nat → Prop} (h : IsS95 w0 W g f0 f1 f2) (hk : Kept W W1 S) (hne : ¬ S g) : IsS95 w0 W1 g f0 f1 f2 := by
 obtain ⟨A0, c0, hb, hg, hr0⟩ := h
 exact ⟨A0, c0, blk_kept hb hk hne, hg, hr0⟩
theorem IsS95.below {w0 W : World} {g : Nat} {f0 : List Int} {f1 : Int} {f2 : Int} {W1 : World} (h : IsS95 w0 W g f0 f1 f2) (hw : Below W.heap.size W W1) : IsS95 w0 W1 g f0 f1 f2 := h.grown (grown_of_below hw none) (by simp)
theorem IsS95.alloc {w0 W : World} {g : Nat} {f0 : List Int} {f1 : Int} {f2 : Int} (h : IsS95 w0 W g f0 f1 f2) (o : Obj) : IsS95 w0 (W.alloc o) g f0 f1 f2 := h.below (below_alloc (Below.refl _ _) o)
theorem IsS95.drewN {w0 W : World} {g : Nat} {f0 : List Int} {f1 : Int} {f2 : Int} (h : IsS95 w0 W g f0 f1 f2) (m : Nat) : IsS95 w0 (W.drewN m) g f0 f1 f2 := h
theorem IsS95.drew {w0 W : World} {g : Nat} {f0 : List Int} {f1 : Int} {f2 : Int} (h : IsS95 w0 W g f0 f1 f2) : IsS95 w0 W.drew g f0 f1 f2 := h
theorem IsS95.at_ {w0 W : World} {g : Nat} {f0 : List Int} {f1 : Int} {f2 : Int} {w' : World} {m : Nat} (hq : W.drewN m = w') (h : IsS95 w0 W g f0 f1 f2) : IsS95 w0 w' g f0 f1 f2 := by subst hq; exact IsS95.drewN h m
theorem IsS95.apart {w0 W : World} {g : Nat} {f0 : List Int} {f1 : Int} {f2 : Int} {α : Type} {d : Kd α} {e : Nat} {base : Nat} {ok : Nat → Prop} {v : Value} {xs : List α} (h : IsS95 w0 W g f0 f1 f2) (ho : d.R e W base ok v xs) (ht : ∀ q, q ∈ e :: d.E → q ≠ 95) : d.R e W base (fun k => ok k ∧ k ≠ g) v xs := by
 obtain ⟨A0, c0, hb, hg, hr0⟩ := h
 exact Kd.R_types ho hb ht
theorem IsS95.own_ne {w0 W : World} {g : Nat} {f0 : List Int} {f1 : Int} {f2 : Int} {α : Type} {d : Kd α} {e : Nat} {base : Nat} {ok : Nat → Prop} {v : Value} {xs : List α} (h : IsS95 w0 W g f0 f1 f2) (ho : d.R e W base ok v xs) (ht : e ≠ 95) : some g ≠ v.ownBlock := by
 obtain ⟨A0, c0, hb, hg, hr0⟩ := h
 exact Kd.R_ne ho hb ht
theorem IsS95.apartQ {w0 W : World} {g : Nat} {f0 : List Int} {f1 : Int} {f2 : Int} {α : Type} {d : Kd α} {e : Nat} {base : Nat} {ok : Nat → Prop} {v : Value} {xs : List α} (h : IsS95 w0 W g f0 f1 f2) (ho : d.Q e W base ok v xs) (ht : ∀ q, q ∈ e :: d.E → q ≠ 95) : d.Q e W base (fun k => ok k ∧ k ≠ g) v xs := by
 obtain ⟨A0, c0, hb, hg, hr0⟩ := h
 exact Kd.Q_types ho hb ht
theorem IsS95.own_neQ {w0 W : World} {g : Nat} {f0 : List Int} {f1 : Int} {f2 : Int} {α : Type} {d : Kd α} {e : Nat} {base : Nat} {ok : Nat → Prop} {v : Value} {xs : List α} (h : IsS95 w0 W g f0 f1 f2) (ho : d.Q e W base ok v xs) (ht : e ≠ 95) : some g ≠ v.ownBlock := by
 obtain ⟨A0, c0, hb, hg, hr0⟩ := h
 exact Kd.Q_ne ho hb ht
theorem IsS95.apartS {w0 W : World} {g : Nat} {f0 : List Int} {f1 : Int} {f2 : Int} {α : Type} {d : Kd α} {e : Nat} {base : Nat} {ok : Nat → Prop} {v : Value} {xs : List α} (h : IsS95 w0 W g f0 f1 f2) (ho : d.S e W base ok v xs) (ht : ∀ q, q ∈ e :: d.E → q ≠ 95) : d.S e W base (fun k => ok k ∧ k ≠ g) v xs := by
 obtain ⟨A0, c0, hb, hg, hr0⟩ := h
 exact Kd.S_types ho hb ht
theorem IsS95.own_neS {w0 W : World} {g : Nat} {f0 : List Int} {f1 : Int} {f2 : Int} {α : Type} {d : Kd α} {e : Nat} {base : Nat} {ok : Nat → Prop} {v : Value} {xs : List α} (h : IsS95 w0 W g f0 f1 f2) (ho : d.S e W base ok v xs) (ht : e ≠ 95) : some g ≠ v.ownBlock := by
 obtain ⟨A0, c0, hb, hg, hr0⟩ := h
 exact Kd.S_ne ho hb ht
theorem IsS95.lt {w0 W : World} {g : Nat} {f0 : List Int} {f1 : Int} {f2 : Int} (h : IsS95 w0 W g f0 f1 f2) : g < W.heap.size := by
 obtain ⟨A0, c0, hb, hg, hr0⟩ := h
 exact blk_lt hb
theorem IsS95.ge {w0 W : World} {g : Nat} {f0 : List Int} {f1 : Int} {f2 : Int} (h : IsS95 w0 W g f0 f1 f2) : w0.heap.size ≤ g := by
 obtain ⟨A0, c0, hb, hg, hr0⟩ := h
 exact hg
theorem IsS95.ne_blk {w0 W : World} {g : Nat} {f0 : List Int} {f1 : Int} {f2 : Int} {a : Nat} {cs : Array Value} {t : TypeId} {fr : Nat × Nat} (h : IsS95 w0 W g f0 f1 f2) (hb2 : W.heap[a]? = some (.cells cs t fr)) (ht : t ≠ 95) : g ≠ a := by
 obtain ⟨A0, c0, hb, hg, hr0⟩ := h
 rintro rfl
 rw [hb] at hb2
 injection hb2 with hb2
 injection hb2 with _ ht2
 exact ht ht2.symm
theorem IsS95.far {w0 W : World} {g : Nat} {f0 : List Int} {f1 : Int} {f2 : Int} {p : Addr} (h : IsS95 w0 W g f0 f1 f2) (hne : g ≠ p.block) (u : Value) : IsS95 w0 (W.setCell p u) g f0 f1 f2 := by
 obtain ⟨A0, c0, hb, hg, hr0⟩ := h
 exact ⟨A0, c0, blk_far hb hne u, hg, hr0⟩
theorem cellS95_0 {W : World} {g : Nat} {A0 : Option Addr} {c0 : Nat} {f0 : List Int} {f1 : Int} {f2 : Int} (h : W.heap[g]? = some (.cells #[.slice A0 f0.length c0, .int .i64 f1, .int .i64 f2] 95 (0, 0))) : W.cell? ⟨g, 0, none⟩ = some (.slice A0 f0.length c0) := (blk_cell h 0).trans rfl
theorem cellS95_1 {W : World} {g : Nat} {A0 : Option Addr} {c0 : Nat} {f0 : List Int} {f1 : Int} {f2 : Int} (h : W.heap[g]? = some (.cells #[.slice A0 f0.length c0, .int .i64 f1, .int .i64 f2] 95 (0, 0))) : W.cell? ⟨g, 1, none⟩ = some (.int .i64 f1) := (blk_cell h 1).trans rfl
theorem IsS95.set_1 {w0 W : World} {g : Nat} {f0 : List Int} {f1 : Int} {f2 : Int} (h : IsS95 w0 W g f0 f1 f2) (x : Int) : IsS95 w0 (W.setCell ⟨g, 1, none⟩ (.int .i64 x)) g f0 x f2 := by
 obtain ⟨A0, c0, hb, hg, hr0⟩ := h
 exact ⟨A0, c0, by simpa using blk_set hb 1 (.int .i64 x), hg, hr0⟩
theorem cellS95_2 {W : World} {g : Nat} {A0 : Option Addr} {c0 : Nat} {f0 : List Int} {f1 : Int} {f2 : Int} (h : W.heap[g]? = some (.cells #[.slice A0 f0.length c0, .int .i64 f1, .int .i64 f2] 95 (0, 0))) : W.cell? ⟨g, 2, none⟩ = some (.int .i64 f2) := (blk_cell h 2).trans rfl
theorem IsS95.set_2 {w0 W : World} {g : Nat} {f0 : List Int} {f1 : Int} {f2 : Int} (h : IsS95 w0 W g f0 f1 f2) (x : Int) : IsS95 w0 (W.setCell ⟨g, 2, none⟩ (.int .i64 x)) g f0 f1 x := by
 obtain ⟨A0, c0, hb, hg, hr0⟩ := h
 exact ⟨A0, c0, by simpa using blk_set hb 2 (.int .i64 x), hg, hr0⟩
theorem IsS95.new (w0 W : World) (A0 : Option Addr) (c0 : Nat) (f0 : List Int) (f1 : Int) (f2 : Int) (hB : Below w0.heap.size w0 W) (hr0 : Kd.C (Kd.int .u8) w0 A0 f0.length f0) : IsS95 w0 (W.alloc (.cells #[.slice A0 f0.length c0, .int .i64 f1, .int .i64 f2] 95)) W.heap.size f0 f1 f2 := ⟨A0, c0, by simpa using heap_alloc_new W _, hB.size, hr0⟩

def spec_l1New.l0 : Nat → List Int → Int → Int → Option (List Int × Int × Int)
 | 0, _, _, _ => none
 | k + 1, x0, x3, x4 => if x4 < (x0.length : Int) then (if x4 < 4000 then (if 0 ≤ x4 then (spec_l1New.l0 k x0 (Go.bits .and .i64 (wrap64 ((wrap64 ((wrap64 (x3 * 167)) + (wrap64 (rd x0 x4)))) + 29)) 1073741823) (wrap64 (x4 + 1))) else (none)) else (some (x0, 0, x3))) else (some (x0, 0, x3))
def spec_l1New.f (k : Nat) (l0 : List Int) : Option (List Int × Int × Int) := spec_l1New.l0 k l0 (wrap64 (620033 + (wrap64 (3 * (l0.length : Int))))) 0
theorem spec_l1New.mono_l : ∀ k, (∀ y0 y1 y2, LeO (spec_l1New.l0 k y0 y1 y2) (spec_l1New.l0 (k + 1) y0 y1 y2))
 | 0 => fun _ _ _ r h => by simp [spec_l1New.l0] at h
 | k + 1 => by
  have ih0 := spec_l1New.mono_l k
  ·intro y0 y1 y2
   unfold spec_l1New.l0
   repeat' first
   | (with_reducible exact ih0 _ _ _)
   | (with_reducible exact LeO.refl _)
   | (with_reducible exact LeO.none _)
   | (with_reducible refine LeO.ite ?_ ?_)
   | (with_reducible refine LeO.bind ?_ (fun _ => ?_))
theorem spec_l1New.mono : ∀ a0 k, LeO (spec_l1New.f k a0) (spec_l1New.f (k + 1) a0) := by
 intro a0 k
 have ih0 := spec_l1New.mono_l k
 unfold spec_l1New.f
 repeat' first
   | (with_reducible exact ih0 _ _ _)
   | (with_reducible exact LeO.refl _)
   | (with_reducible exact LeO.none _)
   | (with_reducible refine LeO.ite ?_ ?_)
   | (with_reducible refine LeO.bind ?_ (fun _ => ?_))
set_option maxHeartbeats 8000000 in
set_option maxRecDepth 100000 in
theorem spec_l1New.calls (k : Nat) (A0 : Option Addr) (c0 : Nat) (l0 : List Int) (r1 : List Int) (r2 : Int) (r3 : Int) (w0 w : World) (hB : Below w0.heap.size w0 w) (hr0 : Kd.C (Kd.int .u8) w0 A0 l0.length l0) (hc0 : l0.length ≤ c0) (h : spec_l1New.f k l0 = some (r1, r2, r3)) :
  Calls Try.prog 67 #[.slice A0 l0.length c0] w fun e w' => ∃ g_ : Nat, e = .returned (.pointer (some ⟨g_, 0, none⟩)) ∧ IsS95 w0 w' g_ r1 r2 r3 ∧ Below w0.heap.size w0 w' ∧ Below w.heap.size w w' := by
 have hu95 := Try.underlying95
 have HR0 := Aside0.mk hr0
 have HC0 := Aside0.mk hc0
 clear hr0 hc0
 have HBW := Aside0.mk (Below.refl w.heap.size w)
 have HW0 := Aside0.mk hB.size
 have HB := Aside0.mk hB
 clear hB
 have H : (spec_l1New.l0 k l0 (wrap64 (620033 + (wrap64 (3 * (l0.length : Int))))) 0) = some (r1, r2, r3) := h
 clear h
 have H' := Aside0.mk H
 clear H
 go_enter Try.func67, Try.ntmps67
 go_wp2
 go_loopg [3, 4] k (fun kq v3 v4 w' => ∃ (x3_1 : Int) (x4_1 : Int), v3 = .int .i64 x3_1 ∧ v4 = .int .i64 x4_1 ∧ Aside0 (spec_l1New.l0 kq l0 x3_1 x4_1 = some (r1, r2, r3)) ∧ Aside0 (kq ≤ k) ∧ Aside0 (Below w0.heap.size w0 w') ∧ Aside0 (Below w.heap.size w w'))
 case atStart => exact ⟨(wrap64 (620033 + (wrap64 (3 * (l0.length : Int))))), (0), u6_5, u6_5, H', ⟨Nat.le_refl _⟩, ⟨s6_2⟩, ⟨s6_1⟩⟩
 case round =>
  clear H'
  obtain ⟨x3_1, x4_1, rfl, rfl, HA, HK1, HB, HBW⟩ := hrel
  cases gk with
  | zero => exact absurd HA.out (by simp [spec_l1New.l0])
  | succ k1 =>
   have H := HA.out
   clear HA
   simp only [spec_l1New.l0] at H
   by_cases c2 : x4_1 < (l0.length : Int)
   ·rw [if_pos c2] at H
    have c2b0 : decide (x4_1 < (l0.length : Int)) = true := decide_eq_true c2
    clear c2
    by_cases c3 : x4_1 < 4000
    ·rw [if_pos c3] at H
     have c3b0 : decide (x4_1 < 4000) = true := decide_eq_true c3
     clear c3
     by_cases c4 : 0 ≤ x4_1
     ·rw [if_pos c4] at H
      have c4b0 : decide (0 ≤ x4_1) = true := decide_eq_true c4
      clear c4
      have H' := Aside0.mk H
      clear H
      have p186 : 0 ≤ (x4_1 : Int) := of_decide_eq_true (by assumption)
      have q186 : x4_1 < (l0.length : Int) := of_decide_eq_true (by assumption)
      obtain ⟨ad186, e186, hx186_0⟩ := Kd.at_int HR0.out x4_1 p186 q186
      cases e186
      replace hx186_0 := pw_cell_below HB.out hx186_0
      replace p186 := eq_true p186
      replace q186 := eq_true q186
      go_wp2
      go_roundg k1
      case measure => have := HK1.out; omega
      case rel => exact ⟨(Go.bits .and .i64 (wrap64 ((wrap64 ((wrap64 (x3_1 * 167)) + (wrap64 (rd l0 x4_1)))) + 29)) 1073741823), (wrap64 (x4_1 + 1)), u6_5, u6_5, H', ⟨by have := HK1.out; omega⟩, ⟨s6_2⟩, ⟨s6_1⟩⟩
     ·rw [if_neg c4] at H
      exact absurd H (by simp)
    ·rw [if_neg c3] at H
     have c3b0 : decide (x4_1 < 4000) = false := decide_eq_false c3
     clear c3
     simp only [Option.some.injEq, Prod.mk.injEq] at H
     obtain ⟨rfl, rfl, rfl⟩ := H
     go_wp2_with (first | ((with_reducible refine gate_dst (N := 32) rfl ?_); refine box_event ?hg (N := 32) ?hd (cs := #[.slice A0 l0.length c0, .int .i64 0, .int .i64 x3_1]) (t := 95) ?hr ?_; (case hd => rfl); (case hg => rfl); (case hr => exact gq); intro gb187 hg w5 hbox hb; have n0_ := Aside0.mk (below_step HBW.out hb); have n1_ := Aside0.mk (below_step u6_4 hb); have n2_ := Aside0.mk (hbox); have n3_ := bsw w hg (below_size u6_6); have n4_ := Aside0.mk ((Nat.le_trans HW0.out (by rw [hg]; exact (below_size u6_6) : w.heap.size ≤ gb187) : w0.heap.size ≤ gb187)); clear HBW; clear HB; have HBW := n0_; have HB := n1_; have BK187 := n2_; have GW187 := n3_; have GE187 := n4_; clear n0_ n1_ n2_ n3_ n4_; clear hb hbox hg))
     go_ret
     exact ⟨_, rfl, (show IsS95 w0 _ gb187 l0 0 x3_1 from ⟨_, _, by (with_reducible repeat (first | refine blk_drewN ?_ _ | refine blk_drew ?_ | refine blk_alloc ?_ _)); exact BK187.out, GE187.out, HR0.out⟩), by repeat (first | (with_reducible first | exact HB.out | apply below_alloc | apply pw_below_drewN | apply below_drew1 | refine below_set ?_ GE187.out) | exact HB.out), by repeat (first | (with_reducible first | exact HBW.out | apply below_alloc | apply pw_below_drewN | apply below_drew1 | refine below_set ?_ GW187.out) | exact HBW.out)⟩
   ·rw [if_neg c2] at H
    have c2b0 : decide (x4_1 < (l0.length : Int)) = false := decide_eq_false c2
    clear c2
    simp only [Option.some.injEq, Prod.mk.injEq] at H
    obtain ⟨rfl, rfl, rfl⟩ := H
    go_wp2_with (first | ((with_reducible refine gate_dst (N := 32) rfl ?_); refine box_event ?hg (N := 32) ?hd (cs := #[.slice A0 l0.length c0, .int .i64 0, .int .i64 x3_1]) (t := 95) ?hr ?_; (case hd => rfl); (case hg => rfl); (case hr => exact gq); intro gb188 hg w6 hbox hb; have n0_ := Aside0.mk (below_step HBW.out hb); have n1_ := Aside0.mk (below_step u6_4 hb); have n2_ := Aside0.mk (hbox); have n3_ := bsw w hg (below_size u6_6); have n4_ := Aside0.mk ((Nat.le_trans HW0.out (by rw [hg]; exact (below_size u6_6) : w.heap.size ≤ gb188) : w0.heap.size ≤ gb188)); clear HBW; clear HB; have HBW := n0_; have HB := n1_; have BK188 := n2_; have GW188 := n3_; have GE188 := n4_; clear n0_ n1_ n2_ n3_ n4_; clear hb hbox hg))
    go_ret
    exact ⟨_, rfl, (show IsS95 w0 _ gb188 l0 0 x3_1 from ⟨_, _, by (with_reducible repeat (first | refine blk_drewN ?_ _ | refine blk_drew ?_ | refine blk_alloc ?_ _)); exact BK188.out, GE188.out, HR0.out⟩), by repeat (first | (with_reducible first | exact HB.out | apply below_alloc | apply pw_below_drewN | apply below_drew1 | refine below_set ?_ GE188.out) | exact HB.out), by repeat (first | (with_reducible first | exact HBW.out | apply below_alloc | apply pw_below_drewN | apply below_drew1 | refine below_set ?_ GW188.out) | exact HBW.out)⟩

end Go.Proofs.Ytkedcokhcgklpaa.MFnRig
