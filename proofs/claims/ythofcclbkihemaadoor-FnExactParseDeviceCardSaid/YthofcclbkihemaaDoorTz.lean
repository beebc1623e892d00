-- Written by hand for this claim: strings.LastIndexAny at "+-" on any text, bytes of 128 and more among them.
import Derived.Laws.RangeAny
import Derived.Laws.RangeString
import Derived.Shelf.RegionOpenPlain
import Derived.Shelf.Small.Strs
import Derived.Shelf.Small.Utf8
import Derived.StillTailTactics
import Derived.Test.YthofcclbkihemaaDoorTy
import Derived.WalkMore
namespace Go.Proofs.YthofcclbkihemaaDoor.Ty
open Go Go.Shelf Go.RowKit Go.Lib
theorem indexByte_none (l : List UInt8) (c : UInt8) (h : ∀ b ∈ l, b ≠ c) : Lib.indexByte l c = -1 := by
  induction l with
  | nil => rfl
  | cons b l ih =>
    have h1 : (b == c) = false := by rw [beq_eq_false_iff_ne]; exact h b (by simp)
    have h2 := ih (fun x hx => h x (by simp [hx]))
    unfold Lib.indexByte
    rw [h1, h2]; rfl
theorem enc_facts (r : Int) (h : 128 ≤ r) : ∃ (n : Nat) (hn : n < (Utf8.encode r).size), (Utf8.encode r).size = n + 1 ∧ 1 ≤ n ∧ n ≤ 3 ∧ 128 ≤ ((Utf8.encode r)[n]'hn).toNat := by
  obtain ⟨c, hc, e⟩ : ∃ c : Nat, 128 ≤ c ∧ Utf8.encode r = (if c < 128 then ⟨#[UInt8.ofNat c]⟩ else if c < 2048 then ⟨#[UInt8.ofNat (192 + c / 64), UInt8.ofNat (128 + c % 64)]⟩ else if c < 65536 then ⟨#[UInt8.ofNat (224 + c / 4096), UInt8.ofNat (128 + c / 64 % 64), UInt8.ofNat (128 + c % 64)]⟩ else ⟨#[UInt8.ofNat (240 + c / 262144), UInt8.ofNat (128 + c / 4096 % 64), UInt8.ofNat (128 + c / 64 % 64), UInt8.ofNat (128 + c % 64)]⟩) := by
    refine ⟨if Utf8.valid r = true then r.toNat else Utf8.runeError, ?_, rfl⟩
    split
    · omega
    · decide
  have hl : ∀ c : Nat, 128 ≤ (UInt8.ofNat (128 + c % 64)).toNat := fun c => by rw [UInt8.toNat_ofNat']; omega
  rw [e, if_neg (by omega)]
  split
  · exact ⟨1, by show 1 < 2; omega, rfl, by omega, by omega, hl c⟩
  · split
    · exact ⟨2, by show 2 < 3; omega, rfl, by omega, by omega, hl c⟩
    · exact ⟨3, by show 3 < 4; omega, rfl, by omega, by omega, hl c⟩
set_option maxHeartbeats 300000 in
set_option maxRecDepth 1000000 in
theorem idxR_err (s : ByteArray) (w : World) (ha : ∀ (j : Nat) b, s.data.toList[j]? = some b → b.toNat < 128) :
    Calls Tryd.prog 102 #[.string s, .int .i32 65533] w fun e w' => e = .returned (.int .i64 (-1)) ∧ Below w.heap.size w w' := by
  have HA : Aside (∀ (j : Nat) b, s.data.toList[j]? = some b → b.toNat < 128) := ha
  clear ha
  go_enter Tryd.func102, Tryd.ntmps102
  go_wp2
  go_loopg [5, 6] s.size (fun g _ _ wx => ∃ i : Nat, i + g = s.size ∧ wx = w.iter s i)
  case atStart => exact ⟨0, by omega, rfl⟩
  case round =>
    obtain ⟨i, hig, rfl⟩ := hrel
    cases gk with
    | zero =>
      obtain rfl : i = s.size := by omega
      have hnx := fun ty => run_next_end (P := Tryd.prog) w s s.size ty (by omega)
      go_wp2
      go_ret
      exact ⟨rfl, (Below.refl _ _).alloc (Nat.le_refl _) _⟩
    | succ g =>
      have hi : i < s.size := by omega
      obtain ⟨x, hx⟩ : ∃ x : UInt8, s[i]'hi = x := ⟨_, rfl⟩
      have hxl : s.data.toList[i]? = some x := by rw [← hx]; exact Lib.data_getElem? s i hi
      have hx128 : x.toNat < 128 := HA.out i x hxl
      have hnx := fun ty => run_next_ascii (P := Tryd.prog) w s i ty hi (by rw [hx]; exact hx128)
      rw [hx] at hnx
      have hne : ((x.toNat : Int) == 65533) = false := by rw [beq_eq_false_iff_ne]; omega
      clear hxl hx
      go_wp2
      go_roundg g
      case measure => omega
      case rel => exact ⟨i + 1, by omega, rfl⟩
set_option maxHeartbeats 300000 in
set_option maxRecDepth 1000000 in
theorem idxR_high (s : ByteArray) (r : Int) (w : World) (h : 128 ≤ r) (h2 : r ≤ 1114111) (hne : ¬ r = 65533) (_ : s.size < 4294967281) (ha : ∀ (j : Nat) b, s.data.toList[j]? = some b → b.toNat < 128) :
    Calls Tryd.prog 102 #[.string s, .int .i32 r] w fun e w' => e = .returned (.int .i64 (-1)) ∧ Below w.heap.size w w' := by
  have h0 : (0 : Int) ≤ r := by omega
  have h128 : ¬ r < 128 := by omega
  have hneb : (r == 65533) = false := by rw [beq_eq_false_iff_ne]; exact hne
  obtain ⟨n, hn, hE, n1, n3, hc⟩ := enc_facts r h
  obtain ⟨E, hEE⟩ : ∃ E, Utf8.encode r = E := ⟨_, rfl⟩
  obtain ⟨c, hcx⟩ : ∃ c : UInt8, (Utf8.encode r)[n]'hn = c := ⟨_, rfl⟩
  rw [hcx] at hc
  have HA : Aside (∀ (j : Nat) b, s.data.toList[j]? = some b → b.toNat < 128) := ha
  clear ha hne
  have hEs : (E.size : Int) - 1 = (n : Int) := by rw [← hEE, hE]; omega
  have hwr : ((E.size : Int) - 1 + 9223372036854775808) % 18446744073709551616 - 9223372036854775808 = (n : Int) := by omega
  have hnE : n < E.size := by rw [← hEE]; exact hn
  have hnEz : (n : Int) < (E.size : Int) := by omega
  have hcE : E[n]'hnE = c := by subst hEE; exact hcx
  clear hcx
  go_enter Tryd.func102, Tryd.ntmps102
  go_wp2
  all_goals first
    | (go_ret; exact ⟨rfl, Below.refl _ _⟩)
    | skip
  all_goals (go_step3; go_wp2)
  all_goals
    go_loopg [9, 10] 1 (fun _ s9 s10 wx => s9 = .int .i64 (n : Int) ∧ s10 = .int .i64 0 ∧ wx = w)
    case atStart => exact ⟨rfl, rfl, rfl⟩
    case round =>
      obtain ⟨rfl, rfl, rfl⟩ := hrel
      by_cases hns : n < s.size
      · have hnz : (n : Int) < (s.size : Int) := by omega
        obtain ⟨x, hx⟩ : ∃ x : UInt8, s[n]'hns = x := ⟨_, rfl⟩
        have hxl : s.data.toList[n]? = some x := by rw [← hx]; exact Lib.data_getElem? s n hns
        have hx128 : x.toNat < 128 := HA.out n x hxl
        have hneq : ((x.toNat : Int) == (c.toNat : Int)) = false := by rw [beq_eq_false_iff_ne]; omega
        obtain ⟨m, hm⟩ : ∃ m : Nat, m = n + 1 := ⟨_, rfl⟩
        have hw1 : ((n : Int) + 1 + 9223372036854775808) % 18446744073709551616 - 9223372036854775808 = (m : Int) := by omega
        have hn1 : (m : Int) ≤ (s.size : Int) := by omega
        have hn2 : m ≤ s.size := by omega
        have hw2 : IntKind.i64.wrap ((n : Int) + 1) = (m : Int) := by rw [IntKind.wrap_i64]; omega
        clear hm
        have hib : ∀ wx, Calls Tryd.prog 114 #[.string (s.extract m s.size), .int .u8 c.toNat] wx fun e w' => e = .returned (.int .i64 (-1)) ∧ w' = wx := by
          intro wx
          have h1 := Any.strings_IndexByte { Tryd.lIdxR with } (s.extract m s.size) (c.toNat : Int) wx
          have e : ((c.toNat : Int)).toNat.toUInt8 = c := by rw [Int.toNat_natCast]; exact UInt8.ofNat_toNat
          have e2 : Lib.indexByte (s.extract m s.size).data.toList c = -1 := by
            refine indexByte_none _ _ (fun b hb e => ?_)
            rw [ByteArray.data_extract, Array.toList_extract] at hb
            have hb2 : b ∈ s.data.toList := List.mem_of_mem_drop (List.mem_of_mem_take hb)
            obtain ⟨j, hj⟩ := List.mem_iff_getElem?.1 hb2
            have := HA.out j b hj
            subst e
            omega
          rw [e, e2] at h1
          exact h1
        have HIB : Aside (∀ wx, Calls Tryd.prog 114 #[.string (s.extract m s.size), .int .u8 c.toNat] wx fun e w' => e = .returned (.int .i64 (-1)) ∧ w' = wx) := hib
        clear hib
        have hneqb : ((x.toNat : Int) != (c.toNat : Int)) = true := by rw [bne, hneq]; rfl
        go_wp2
        refine wp_scope_straight ?_
        repeat refine wp_seq ?_
        go_region
        go_wp2
        repeat refine wp_seq ?_
        go_still_tail 7, (by kernel_rfl)
        go_wp2_with (go_at_call 114; refine (HIB.out _).mono ?_; rintro e w' ⟨rfl, rfl⟩)
        simp only [Exit.noGoto, Exit.inBlock, Exit.then]
        show bodyPost Tryd.prog Tryd.f102 _ Exit.ret _ _
        go_ret
        exact ⟨rfl, ((Below.refl _ _).drew).drew⟩
      · have hnz : ¬ (n : Int) < (s.size : Int) := by omega
        go_wp2
        go_ret
        exact ⟨rfl, Below.refl _ _⟩
theorem sgs_ascii (j : Nat) (b : UInt8) (h : (⟨#[43, 45]⟩ : ByteArray).data.toList[j]? = some b) : b.toNat < 128 := by
  have := List.mem_of_getElem? h
  have h2 : b ∈ [(43 : UInt8), 45] := this
  simp at h2
  rcases h2 with rfl | rfl <;> decide
theorem isSg_high {b : UInt8} (h : 128 ≤ b.toNat) : isSg b = false := by
  cases hq : isSg b with
  | false => rfl
  | true =>
    exfalso
    simp [isSg] at hq
    rcases hq with rfl | rfl <;> revert h <;> decide
set_option maxHeartbeats 1000000 in
set_option maxRecDepth 1000000 in
theorem last_one_high (s : ByteArray) (w : World) (h1 : s.size = 1) (x : UInt8) (hi : 0 < s.size) (hx : s[0]'hi = x) (hx1 : 128 ≤ x.toNat) :
    Calls Tryd.prog 87 #[.string s, .string ⟨#[43, 45]⟩] w fun e w' => e = .returned (.int .i64 (lastS s.data.toList)) ∧ Below w.heap.size w w' := by
  have hiz : (0 : Int) < (s.size : Int) := by omega
  have hl0 : s.data.toList = [x] := by
    have e := Lib.data_getElem? s 0 hi
    rw [hx] at e
    have hlen : s.data.toList.length = 1 := by rw [← Lib.size_eq]; exact h1
    match hh : s.data.toList, hlen with
    | [y], _ => rw [hh] at e; simp at e; rw [e]
  have hn : (128 : Int) ≤ (x.toNat : Int) := by omega
  have hx2 : (x.toNat : Int) ≤ 255 := by have := x.toNat_lt; omega
  have hl : lastS s.data.toList = -1 := by
    have e : lastS s.data.toList = if isSg x = true then 0 else -1 := by rw [hl0]; exact lastS_snoc [] x
    rw [e, isSg_high hx1]; rfl
  have hz : ((s.size : Int) == 1) = true := by rw [beq_iff_eq]; omega
  have hC : Aside (∀ w, Calls Tryd.prog 102 #[.string ⟨#[43, 45]⟩, .int .i32 65533] w fun e w' => e = .returned (.int .i64 (-1)) ∧ Below w.heap.size w w') := fun w => idxR_err _ _ sgs_ascii
  have HL : Lib.Kept (lastS s.data.toList = -1) := hl
  clear hl hl0 h1 hx1
  go_enter Tryd.func87, Tryd.ntmps87
  go_wp2_with (go_at_call 102; refine (hC.out _).mono ?_; rintro e w1 ⟨rfl, hb⟩; have HB2 : Aside (Below w.heap.size w w1) := hb; clear hb)
  go_ret
  refine ⟨?_, HB2.out⟩
  have h2 : lastS s.data.toList = -1 := HL
  rw [h2]; rfl
theorem decode_hi (s : ByteArray) (ha : 128 ≤ (s.get! 0).toNat) (k : Nat) (hk : k < (Utf8.decode s 0).2) : k = 0 ∨ (k < s.size ∧ 128 ≤ (s.get! k).toNat) := by
  simp only [Utf8.decode, Nat.zero_add] at hk
  have c2 : ∀ j, (decide (j < s.size) && (s.get! j).toNat / 64 == 2) = true → j < s.size ∧ 128 ≤ (s.get! j).toNat := by
    intro j hj
    rw [Bool.and_eq_true, decide_eq_true_eq, beq_iff_eq] at hj
    exact ⟨hj.1, by omega⟩
  rw [if_neg (by omega)] at hk
  split at hk
  · rename_i h; rw [Bool.and_eq_true] at h
    split at hk
    · have : k = 0 ∨ k = 1 := by simp at hk; omega
      rcases this with rfl | rfl
      · exact .inl rfl
      · exact .inr (c2 1 h.2)
    · simp at hk; exact .inl hk
  · split at hk
    · rename_i h; rw [Bool.and_eq_true, Bool.and_eq_true] at h
      split at hk
      · have : k = 0 ∨ k = 1 ∨ k = 2 := by simp at hk; omega
        rcases this with rfl | rfl | rfl
        · exact .inl rfl
        · exact .inr (c2 1 h.1.2)
        · exact .inr (c2 2 h.2)
      · simp at hk; exact .inl hk
    · split at hk
      · rename_i h; rw [Bool.and_eq_true, Bool.and_eq_true, Bool.and_eq_true] at h
        split at hk
        · have : k = 0 ∨ k = 1 ∨ k = 2 ∨ k = 3 := by simp at hk; omega
          rcases this with rfl | rfl | rfl | rfl
          · exact .inl rfl
          · exact .inr (c2 1 h.1.1.2)
          · exact .inr (c2 2 h.1.2)
          · exact .inr (c2 3 h.2)
        · simp at hk; exact .inl hk
      · simp at hk; exact .inl hk
theorem decode_max (s : ByteArray) (pos : Nat) : (Utf8.decode s pos).1 ≤ 1114111 := by
  have hb : ∀ k, (s.get! (pos + k)).toNat < 256 := fun k => (s.get! (pos + k)).toNat_lt
  have h0 := hb 0; have h1 := hb 1; have h2 := hb 2; have h3 := hb 3
  simp only [Utf8.decode]
  repeat' split
  all_goals simp_all [Utf8.runeError, Utf8.valid]
  all_goals omega
theorem lastStart_le (l : List UInt8) : lastStart l ≤ l.length := by
  unfold lastStart
  dsimp only
  repeat' split
  all_goals omega
theorem decodeLastL_hi (l : List UInt8) (hne : l ≠ []) (ha : 128 ≤ (l.getD (l.length - 1) 0).toNat) :
    128 ≤ (decodeLastL l).1 ∧ (decodeLastL l).1 ≤ 1114111 ∧ 1 ≤ (decodeLastL l).2 ∧ (decodeLastL l).2 ≤ l.length ∧ ∀ b ∈ l.drop (l.length - (decodeLastL l).2), 128 ≤ b.toNat := by
  have hpos : 0 < l.length := List.length_pos_iff.2 hne
  have hone : ∀ b ∈ l.drop (l.length - 1), 128 ≤ b.toNat := by
    intro b hb
    obtain ⟨j, hj⟩ := List.mem_iff_getElem?.1 hb
    rw [List.getElem?_drop] at hj
    have hj2 : l.length - 1 + j < l.length := by
      by_cases h : l.length - 1 + j < l.length
      · exact h
      · rw [List.getElem?_eq_none (by omega)] at hj; cases hj
    have : j = 0 := by omega
    subst this
    rw [List.getD_eq_getElem?_getD, show l.length - 1 = l.length - 1 + 0 from rfl, hj] at ha
    exact ha
  unfold decodeLastL
  rw [if_neg hne, if_neg (by omega)]
  dsimp only
  split
  · rename_i hw
    obtain ⟨t, ht⟩ : ∃ t, l.drop (lastStart l) = t := ⟨_, rfl⟩
    have hle := lastStart_le l
    have htl : t.length = l.length - lastStart l := by rw [← ht, List.length_drop]
    rw [ht] at hw ⊢
    have hd : decodeL t = Utf8.decode ⟨t.toArray⟩ 0 := rfl
    have hsz : (⟨t.toArray⟩ : ByteArray).size = t.length := rfl
    have hg : ∀ k, k < t.length → (⟨t.toArray⟩ : ByteArray).get! k = t.getD k 0 := by
      intro k hk
      show t.toArray[k]! = _
      simp [hk]
    have h2 : (decodeL t).2 = t.length := by omega
    have htpos : 0 < t.length := by
      by_cases h : 0 < t.length
      · exact h
      · exfalso
        have : t = [] := List.length_eq_zero_iff.1 (by omega)
        rw [this] at h2
        revert h2; decide
    have h0 : 128 ≤ ((⟨t.toArray⟩ : ByteArray).get! 0).toNat := by
      by_cases h : 128 ≤ ((⟨t.toArray⟩ : ByteArray).get! 0).toNat
      · exact h
      · exfalso
        have e1 : (Utf8.decode ⟨t.toArray⟩ 0).2 = 1 := by
          simp only [Utf8.decode, Nat.zero_add]
          rw [if_pos (by omega)]
        have e2 : t.length = 1 := by rw [← h2, hd, e1]
        rw [hg 0 htpos] at h
        apply h
        have : l.getD (l.length - 1) 0 = t.getD 0 0 := by
          rw [← ht, List.getD_eq_getElem?_getD, List.getD_eq_getElem?_getD, List.getElem?_drop]
          rw [show lastStart l + 0 = l.length - 1 by omega]
        rw [← this]; exact ha
    have h0' : 128 ≤ (((⟨t.toArray⟩ : ByteArray))[0]'htpos).toNat := by
      have : (⟨t.toArray⟩ : ByteArray).get! 0 = (⟨t.toArray⟩ : ByteArray)[0]'htpos := by
        rw [hg 0 htpos]
        show t.getD 0 0 = t[0]'htpos
        simp [List.getD_eq_getElem?_getD, htpos]
      rw [← this]; exact h0
    refine ⟨(decode_high ⟨t.toArray⟩ 0 htpos h0').1, decode_max _ _, (decode_high ⟨t.toArray⟩ 0 htpos h0').2, by rw [h2]; omega, ?_⟩
    rw [h2, htl, show l.length - (l.length - lastStart l) = lastStart l by omega, ht]
    intro b hb
    obtain ⟨j, hj⟩ := List.mem_iff_getElem?.1 hb
    have hjl : j < t.length := by
      by_cases h : j < t.length
      · exact h
      · rw [List.getElem?_eq_none (by omega)] at hj; cases hj
    have hgb : (⟨t.toArray⟩ : ByteArray).get! j = b := by
      rw [hg j hjl, List.getD_eq_getElem?_getD, hj]; rfl
    rcases decode_hi ⟨t.toArray⟩ h0 j (by rw [← hd, h2]; exact hjl) with rfl | ⟨_, h⟩
    · rw [← hgb]; exact h0
    · rw [← hgb]; exact h
  · exact ⟨by decide, by decide, Nat.le_refl _, hpos, hone⟩
theorem lastS_append_hi (u : List UInt8) : ∀ t : List UInt8, (∀ b ∈ u, 128 ≤ b.toNat) → lastS (t ++ u) = lastS t := by
  induction u with
  | nil => intro t _; rw [List.append_nil]
  | cons b u ih =>
    intro t h
    have e : t ++ b :: u = (t ++ [b]) ++ u := by simp
    rw [e, ih (t ++ [b]) (fun c hc => h c (by simp [hc])), lastS_snoc, isSg_high (h b (by simp))]
    rfl
theorem lastS_hi (l : List UInt8) (n : Nat) (h : ∀ b ∈ l.drop (l.length - n), 128 ≤ b.toNat) : lastS l = lastS (l.take (l.length - n)) := by
  have := lastS_append_hi (l.drop (l.length - n)) (l.take (l.length - n)) h
  rw [List.take_append_drop] at this
  exact this
theorem idxR_far (r : Nat) (w : World) (h : 128 ≤ r) (h2 : r ≤ 1114111) :
    Calls Tryd.prog 102 #[.string ⟨#[43, 45]⟩, .int .i32 (r : Int)] w fun e w' => e = .returned (.int .i64 (-1)) ∧ Below w.heap.size w w' := by
  by_cases h3 : r = 65533
  · subst h3; exact idxR_err _ w sgs_ascii
  · exact idxR_high _ (r : Int) w (by omega) (by omega) (by omega) (by decide) sgs_ascii
set_option maxHeartbeats 1000000 in
set_option maxRecDepth 1000000 in
theorem last_short_any (s : ByteArray) (w : World) (h1 : ¬ s.size = 1) (h8 : s.size ≤ 8) (hT : Lib.Utf8Tabs 2 3 w) :
    Calls Tryd.prog 87 #[.string s, .string ⟨#[43, 45]⟩] w fun e w' => e = .returned (.int .i64 (lastS s.data.toList)) ∧ Below w.heap.size w w' := by
  have hn1 : ((s.size : Int) == 1) = false := beq_eq_false_iff_ne.2 (by omega)
  have h8z : decide ((8 : Int) < (s.size : Int)) = false := decide_eq_false (by omega)
  have HT : Aside (Lib.Utf8Tabs 2 3 w) := hT
  clear hT
  go_enter Tryd.func87, Tryd.ntmps87
  go_wp2_with (go_at_call 103; refine (use_calls _ _).mono ?_; rintro e w' ⟨rfl, hw⟩; rw [hw, h8z])
  go_loopg [13] s.size (fun g s13 wx => ∃ i : Nat, i ≤ g ∧ i ≤ s.size ∧ s13 = .int .i64 (i : Int) ∧ Below w.heap.size w wx ∧ Lib.Kept (lastS s.data.toList = lastS (s.data.toList.take i)))
  case atStart => exact ⟨s.size, Nat.le_refl _, Nat.le_refl _, rfl, Below.refl _ _, by rw [Lib.size_eq, List.take_length]; rfl⟩
  case round =>
    obtain ⟨i, hig, his, rfl, hB, hL⟩ := hrel
    have HB : Aside (Below w.heap.size w wr) := hB
    clear hB
    cases i with
    | zero =>
      have e0 : ((0 : Nat) : Int) = 0 := rfl
      rw [e0]
      go_wp2
      go_ret
      refine ⟨?_, HB.out⟩
      have hL2 : lastS s.data.toList = -1 := hL
      rw [hL2]; rfl
    | succ m =>
      obtain ⟨g, rfl⟩ : ∃ g, gk = g + 1 := ⟨gk - 1, by omega⟩
      have hi : m < s.size := by omega
      have hiz : (0 : Int) < ((m + 1 : Nat) : Int) := by omega
      have hiz2 : ((m + 1 : Nat) : Int) ≤ (s.size : Int) := by omega
      obtain ⟨x, hx⟩ : ∃ x : UInt8, s[m]'hi = x := ⟨_, rfl⟩
      have hxl : s.data.toList[m]? = some x := by rw [← hx]; exact Lib.data_getElem? s m hi
      have Hx : Lib.Kept (lastS (s.data.toList.take (m + 1)) = if isSg x = true then (m : Int) else lastS (s.data.toList.take m)) := lastS_take hxl
      have htl : (s.extract 0 (m + 1)).data.toList = s.data.toList.take m ++ [x] := by
        rw [ByteArray.data_extract, Array.toList_extract, List.extract_eq_take_drop, List.drop_zero, Nat.sub_zero, List.take_add_one, hxl]; rfl
      have hts : (s.extract 0 (m + 1)).size ≤ 9223372036854775807 := by
        rw [Lib.size_eq, htl, List.length_append, List.length_take, ← Lib.size_eq]; simp; omega
      by_cases hx1 : x.toNat < 128
      · have hwr : (((m + 1 : Nat) : Int) - 1 + 9223372036854775808) % 18446744073709551616 - 9223372036854775808 = (m : Int) := by omega
        have hD : Aside (∀ w1, Lib.Utf8Tabs 2 3 w1 → Calls Tryd.prog 105 #[.string (s.extract 0 (m + 1))] w1 fun e w' => e = .returned (.tuple #[.int .i32 x.toNat, .int .i64 1]) ∧ Below w1.heap.size w1 w') := fun w1 h1 => decL_calls _ _ x htl hts hx1 w1 h1
        have hsg := idx_sg x
        generalize hq : Lib.indexByte [43, 45] x = q at hsg
        have hC : Aside (∀ w, Calls Tryd.prog 102 #[.string ⟨#[43, 45]⟩, .int .i32 x.toNat] w fun e w' => e = .returned (.int .i64 q) ∧ w' = w) := fun w => by rw [← hq]; exact idxR_calls x hx1 w
        clear hxl htl hts hq
        cases hin : isSg x
        · rw [hin] at hsg
          have hsg' : decide ((0 : Int) ≤ q) = false := hsg
          have Hin : Lib.Kept (isSg x = false) := hin
          clear hin hsg
          go_wp2_with (first
            | (go_at_call 105; refine (hD.out _ (utf_below HT.out HB.out)).mono ?_; rintro e w1 ⟨rfl, hb⟩; have HB2 : Aside (Below w.heap.size w w1) := HB.out.trans (hb.mono HB.out.size); clear hb)
            | (go_at_call 102; refine (hC.out _).mono ?_; rintro e w' ⟨rfl, hw⟩; rw [hw]))
          go_roundg g
          case measure => omega
          case rel =>
            refine ⟨m, by omega, by omega, rfl, HB2.out, ?_⟩
            have h1 : lastS s.data.toList = lastS (s.data.toList.take (m + 1)) := hL
            have h2 : lastS (s.data.toList.take (m + 1)) = if isSg x = true then (m : Int) else lastS (s.data.toList.take m) := Hx
            have h3 : isSg x = false := Hin
            show lastS s.data.toList = _
            rw [h1, h2, h3]; rfl
        · rw [hin] at hsg
          have hsg' : decide ((0 : Int) ≤ q) = true := hsg
          have Hin : Lib.Kept (isSg x = true) := hin
          clear hin hsg
          go_wp2_with (first
            | (go_at_call 105; refine (hD.out _ (utf_below HT.out HB.out)).mono ?_; rintro e w1 ⟨rfl, hb⟩; have HB2 : Aside (Below w.heap.size w w1) := HB.out.trans (hb.mono HB.out.size); clear hb)
            | (go_at_call 102; refine (hC.out _).mono ?_; rintro e w' ⟨rfl, hw⟩; rw [hw]))
          go_ret
          refine ⟨?_, HB2.out⟩
          have h1 : lastS s.data.toList = lastS (s.data.toList.take (m + 1)) := hL
          have h2 : lastS (s.data.toList.take (m + 1)) = if isSg x = true then (m : Int) else lastS (s.data.toList.take m) := Hx
          have h3 : isSg x = true := Hin
          rw [h1, h2, h3]; rfl
      · have htk : s.data.toList.take (m + 1) = s.data.toList.take m ++ [x] := by rw [List.take_add_one, hxl]; rfl
        have hlen : (s.data.toList.take m ++ [x]).length = m + 1 := by rw [← htk, List.length_take, ← Lib.size_eq]; omega
        have hhi := decodeLastL_hi (s.data.toList.take m ++ [x]) (by simp) (by rw [List.getD_eq_getElem?_getD]; simp; omega)
        have hdl := Any.utf8_DecodeLastRuneInString Tryd.lDecL (s.extract 0 (m + 1))
        rw [htl] at hdl
        obtain ⟨r, n, hrn⟩ : ∃ r n, decodeLastL (s.data.toList.take m ++ [x]) = (r, n) := ⟨_, _, rfl⟩
        rw [hrn] at hhi hdl
        obtain ⟨r1, r2, n1, n2, hn⟩ := hhi
        rw [hlen] at n2 hn
        have hcut : lastS (s.data.toList.take (m + 1)) = lastS (s.data.toList.take (m + 1 - n)) := by
          rw [htk] 
          have := lastS_hi (s.data.toList.take m ++ [x]) n (by rw [hlen]; exact hn)
          rw [hlen] at this
          rw [this, ← htk, List.take_take, Nat.min_eq_left (by omega)]
        have Hcut : Lib.Kept (lastS (s.data.toList.take (m + 1)) = lastS (s.data.toList.take (m + 1 - n))) := hcut
        have hwr : (((m + 1 : Nat) : Int) - (n : Int) + 9223372036854775808) % 18446744073709551616 - 9223372036854775808 = ((m + 1 - n : Nat) : Int) := by omega
        have hD : Aside (∀ w1, Lib.Utf8Tabs 2 3 w1 → Calls Tryd.prog 105 #[.string (s.extract 0 (m + 1))] w1 fun e w' => e = .returned (.tuple #[.int .i32 (r : Int), .int .i64 (n : Int)]) ∧ Below w1.heap.size w1 w') := fun w1 h1 => hdl w1 hts h1
        have hC : Aside (∀ w, Calls Tryd.prog 102 #[.string ⟨#[43, 45]⟩, .int .i32 (r : Int)] w fun e w' => e = .returned (.int .i64 (-1)) ∧ Below w.heap.size w w') := fun w => idxR_far r w r1 r2
        clear hxl htl hts hdl hrn hn hcut htk hlen hx
        obtain ⟨k, hk⟩ : ∃ k, m + 1 - n = k := ⟨_, rfl⟩
        rw [hk] at hwr Hcut
        have hkm : k ≤ m := by omega
        have Hk : Lib.Kept (((m : Int) + 1 - (n : Int)) = (k : Int)) := by show (m : Int) + 1 - (n : Int) = (k : Int); omega
        clear hk
        go_wp2_with (first
          | (go_at_call 105; refine (hD.out _ (utf_below HT.out HB.out)).mono ?_; rintro e w1 ⟨rfl, hb⟩; have HB2 : Aside (Below w.heap.size w w1) := HB.out.trans (hb.mono HB.out.size); clear hb)
          | (go_at_call 102; refine (hC.out _).mono ?_; rintro e w2 ⟨rfl, hb⟩; have HB3 : Aside (Below w.heap.size w w2) := HB2.out.trans (hb.mono HB2.out.size); clear hb))
        go_roundg g
        case measure => omega
        case rel =>
          refine ⟨k, by omega, by omega, by have h : (m : Int) + 1 - (n : Int) = (k : Int) := Hk; rw [h], HB3.out, ?_⟩
          have h1 : lastS s.data.toList = lastS (s.data.toList.take (m + 1)) := hL
          have h2 : lastS (s.data.toList.take (m + 1)) = lastS (s.data.toList.take k) := Hcut
          show lastS s.data.toList = _
          rw [h1, h2]
/-- strings.LastIndexAny at "+-", of any text. -/
theorem last_any (s : ByteArray) (w : World) (hs : s.size < 4294967281) (hT : TabP w) :
    Calls Tryd.prog 87 #[.string s, .string ⟨#[43, 45]⟩] w fun e w' => e = .returned (.int .i64 (lastS s.data.toList)) ∧ Below w.heap.size w w' := by
  by_cases h1 : s.size = 1
  · have hi : 0 < s.size := by omega
    by_cases hx : (s[0]'hi).toNat < 128
    · have hl0 : s.data.toList = [s[0]'hi] := by
        have e := Lib.data_getElem? s 0 hi
        have hlen : s.data.toList.length = 1 := by rw [← Lib.size_eq]; exact h1
        match hh : s.data.toList, hlen with
        | [y], _ => rw [hh] at e; simp at e; rw [e]
      exact last_one s w h1 (fun b hb => by rw [hl0] at hb; simp at hb; rw [hb]; exact hx)
    · exact last_one_high s w h1 _ hi rfl (by omega)
  · by_cases h8 : s.size ≤ 8
    · exact last_short_any s w h1 h8 hT.2
    · exact last_long s w (by omega) hs
end Go.Proofs.YthofcclbkihemaaDoor.Ty
