-- Written by a program for this claim: strings.LastIndexAny at "+-" (the library has no contract for it), out of the library's contracts of what it calls.
import Derived.Shelf.Strings.Runes
import Derived.Shelf.Strings.AsciiSet
import Derived.Shelf.Strings.SlTrimAsciiWalks
import Derived.Shelf.Strings.SlTrimAscii
import Derived.Deep.LoopGhost
import Derived.Lib.Builder
import Derived.Shelf.Unicode.DecodeLast
import Derived.Lib.TrimAscii
import Derived.Ground.NamesProg
import Derived.Test.YthofcclbkihemaaDoorTx
namespace Go.Proofs.YthofcclbkihemaaDoor.Ty
open Go Go.Shelf Go.RowKit Go.Lib
def Tryd.lIdxR_ren : Go.Shelf.Ren := ⟨fun | 152 => 102 | 137 => 114 | 119 => 115 | 224 => 116 | 225 => 117 | 217 => 122 | 266 => 129 | n => n, fun | 9 => 9 | 21 => 21 | 3 => 3 | 4 => 4 | 5 => 5 | 0 => 0 | 46 => 103 | n => n, fun | n => n⟩
theorem Tryd.lIdxR : Go.Proofs.Lays.n152 Tryd.prog Tryd.lIdxR_ren := {
  mixed := by kernel_rfl
  f119 := Tryd.func115.trans (congrArg some (by kernel_rfl))
  f137 := Tryd.func114.trans (congrArg some (by kernel_rfl))
  f152 := Tryd.func102.trans (congrArg some (by kernel_rfl))
  f217 := Tryd.func122.trans (congrArg some (by kernel_rfl))
  f224 := Tryd.func116.trans (congrArg some (by kernel_rfl))
  f225 := Tryd.func117.trans (congrArg some (by kernel_rfl))
  f266 := Tryd.func129.trans (congrArg some (by kernel_rfl))
  t0 := Tryd.underlying0
  a0 := Tryd.isAgg0
  z0 := Tryd.sizeOf0
  v0 := Tryd.zeroValue0
  t3 := Tryd.underlying3
  a3 := Tryd.isAgg3
  z3 := Tryd.sizeOf3
  v3 := Tryd.zeroValue3
  t4 := Tryd.underlying4
  a4 := Tryd.isAgg4
  z4 := Tryd.sizeOf4
  v4 := Tryd.zeroValue4
  t5 := Tryd.underlying5
  a5 := Tryd.isAgg5
  z5 := Tryd.sizeOf5
  v5 := Tryd.zeroValue5
  t9 := Tryd.underlying9
  a9 := Tryd.isAgg9
  z9 := Tryd.sizeOf9
  v9 := Tryd.zeroValue9
  t21 := Tryd.underlying21
  a21 := Tryd.isAgg21
  z21 := Tryd.sizeOf21
  v21 := Tryd.zeroValue21
  t46 := Tryd.underlying103
  a46 := Tryd.isAgg103
  z46 := Tryd.sizeOf103
  v46 := Tryd.zeroValue103 }
def Tryd.lMkSet_ren : Go.Shelf.Ren := ⟨fun | 227 => 96 | n => n, fun | 9 => 9 | 116 => 98 | 4 => 4 | 0 => 0 | 3 => 3 | 5 => 5 | n => n, fun | n => n⟩
theorem Tryd.lMkSet : Go.Proofs.Lays.n227 Tryd.prog Tryd.lMkSet_ren := {
  mixed := by kernel_rfl
  f227 := Tryd.func96.trans (congrArg some (by kernel_rfl))
  t0 := Tryd.underlying0
  a0 := Tryd.isAgg0
  z0 := Tryd.sizeOf0
  v0 := Tryd.zeroValue0
  t3 := Tryd.underlying3
  a3 := Tryd.isAgg3
  z3 := Tryd.sizeOf3
  v3 := Tryd.zeroValue3
  t4 := Tryd.underlying4
  a4 := Tryd.isAgg4
  z4 := Tryd.sizeOf4
  v4 := Tryd.zeroValue4
  t5 := Tryd.underlying5
  a5 := Tryd.isAgg5
  z5 := Tryd.sizeOf5
  v5 := Tryd.zeroValue5
  t9 := Tryd.underlying9
  a9 := Tryd.isAgg9
  z9 := Tryd.sizeOf9
  v9 := Tryd.zeroValue9
  t116 := Tryd.underlying98
  a116 := Tryd.isAgg98
  z116 := Tryd.sizeOf98 }
def Tryd.lCont_ren : Go.Shelf.Ren := ⟨fun | 228 => 104 | n => n, fun | 124 => 102 | 5 => 5 | 4 => 4 | 0 => 0 | 116 => 98 | n => n, fun | n => n⟩
theorem Tryd.lCont : Go.Proofs.Lays.n228 Tryd.prog Tryd.lCont_ren := {
  mixed := by kernel_rfl
  f228 := Tryd.func104.trans (congrArg some (by kernel_rfl))
  t0 := Tryd.underlying0
  a0 := Tryd.isAgg0
  z0 := Tryd.sizeOf0
  v0 := Tryd.zeroValue0
  t4 := Tryd.underlying4
  a4 := Tryd.isAgg4
  z4 := Tryd.sizeOf4
  v4 := Tryd.zeroValue4
  t5 := Tryd.underlying5
  a5 := Tryd.isAgg5
  z5 := Tryd.sizeOf5
  v5 := Tryd.zeroValue5
  t116 := Tryd.underlying98
  a116 := Tryd.isAgg98
  z116 := Tryd.sizeOf98
  t124 := Tryd.underlying102
  a124 := Tryd.isAgg102
  z124 := Tryd.sizeOf102
  v124 := Tryd.zeroValue102 }
def Tryd.lDecL_ren : Go.Shelf.Ren := ⟨fun | 271 => 105 | 120 => 118 | 197 => 119 | 260 => 128 | n => n, fun | 9 => 9 | 21 => 21 | 3 => 3 | 4 => 4 | 5 => 5 | 105 => 107 | 119 => 130 | 0 => 0 | 46 => 103 | 139 => 133 | 138 => 132 | n => n, fun | 3 => 2 | 4 => 3 | n => n⟩
theorem Tryd.lDecL : Go.Proofs.Lays.n271 Tryd.prog Tryd.lDecL_ren := {
  mixed := by kernel_rfl
  f120 := Tryd.func118.trans (congrArg some (by kernel_rfl))
  f197 := Tryd.func119.trans (congrArg some (by kernel_rfl))
  f260 := Tryd.func128.trans (congrArg some (by kernel_rfl))
  f271 := Tryd.func105.trans (congrArg some (by kernel_rfl))
  t0 := Tryd.underlying0
  a0 := Tryd.isAgg0
  z0 := Tryd.sizeOf0
  v0 := Tryd.zeroValue0
  t3 := Tryd.underlying3
  a3 := Tryd.isAgg3
  z3 := Tryd.sizeOf3
  v3 := Tryd.zeroValue3
  t4 := Tryd.underlying4
  a4 := Tryd.isAgg4
  z4 := Tryd.sizeOf4
  v4 := Tryd.zeroValue4
  t5 := Tryd.underlying5
  a5 := Tryd.isAgg5
  z5 := Tryd.sizeOf5
  v5 := Tryd.zeroValue5
  t9 := Tryd.underlying9
  a9 := Tryd.isAgg9
  z9 := Tryd.sizeOf9
  v9 := Tryd.zeroValue9
  t21 := Tryd.underlying21
  a21 := Tryd.isAgg21
  z21 := Tryd.sizeOf21
  v21 := Tryd.zeroValue21
  t46 := Tryd.underlying103
  a46 := Tryd.isAgg103
  z46 := Tryd.sizeOf103
  v46 := Tryd.zeroValue103
  t105 := Tryd.underlying107
  a105 := Tryd.isAgg107
  z105 := Tryd.sizeOf107
  v105 := Tryd.zeroValue107
  t119 := Tryd.underlying130
  a119 := Tryd.isAgg130
  z119 := Tryd.sizeOf130
  t138 := Tryd.underlying132
  a138 := Tryd.isAgg132
  z138 := Tryd.sizeOf132
  v138 := Tryd.zeroValue132
  t139 := Tryd.underlying133
  a139 := Tryd.isAgg133
  z139 := Tryd.sizeOf133
  v139 := Tryd.zeroValue133
  g3 := by kernel_rfl
  g4 := by kernel_rfl }
/-- What the library's functions read of the world. -/
def TabP (w : World) : Prop := Tx.TabP w ∧ Lib.Utf8Tabs 2 3 w
theorem utf_below {g h : Nat} {w w' : World} (k : Lib.Utf8Tabs g h w) (hb : Below w.heap.size w w') : Lib.Utf8Tabs g h w' :=
  ⟨fun c hc => (hb.cell (World.block_lt_of_cell? _ _ (k.1 c hc))).trans (k.1 c hc), fun i hi => ⟨(hb.cell (World.block_lt_of_cell? _ _ (k.2 i hi).1)).trans (k.2 i hi).1, (hb.cell (World.block_lt_of_cell? _ _ (k.2 i hi).2)).trans (k.2 i hi).2⟩⟩
theorem TabP.below {w w' : World} (h : TabP w) (hb : Below w.heap.size w w') : TabP w' := ⟨h.1.below hb, utf_below h.2 hb⟩
theorem TabP.drewN {w : World} {n : Nat} (h : TabP w) : TabP (w.drewN n) := h
theorem itoa_calls (n : Int) (h0 : -9223372036854775808 ≤ n) (h1 : n ≤ 9223372036854775807) (w : World) (hT : TabP w) :
    Calls Tryd.prog 76 #[.int .i64 n] w fun e w' => e = .returned (.string ⟨(Lib.itoa n).toArray⟩) ∧ Below w.heap.size w w' := Tx.itoa_calls n h0 h1 w hT.1
theorem trimR_calls (s : ByteArray) (w : World) (hs : s.size ≤ 9223372036854775807) :
    Calls Tryd.prog 78 #[.string s, .string ⟨#[48]⟩] w fun e w' => e = .returned (.string ⟨(Lib.trimRightB s.data.toList 48).toArray⟩) ∧ w' = w := Tx.trimR_calls s w hs
theorem cut_calls (s sep : ByteArray) (w : World) (hs : s.size < 4294967281) (hT : TabP w) :
    Calls Tryd.prog 74 #[.string s, .string sep] w fun e w' => e = .returned (.tuple #[.string ⟨(Lib.cut s.data.toList sep.data.toList).1.toArray⟩, .string ⟨(Lib.cut s.data.toList sep.data.toList).2.1.toArray⟩, .bool (Lib.cut s.data.toList sep.data.toList).2.2]) ∧ ∃ n, w' = w.drewN n := Tx.cut_calls s sep w hs hT.1
theorem split_calls (s sep : ByteArray) (w : World) (hs : s.size < 4294967281) (h1 : 1 ≤ sep.size) (hT : TabP w) :
    Calls Tryd.prog 73 #[.string s, .string sep] w fun e w' => e = .returned (.slice (some ⟨w.heap.size, 0, none⟩) (Lib.countB s sep + 1) (Lib.countB s sep + 1)) ∧ w' = w.alloc (.cells ((Lib.splitB sep 0 (Lib.countB s sep) s).map Value.string).toArray 9) := Tx.split_calls s sep w hs h1 hT.1
theorem trimP_calls (s p : ByteArray) (w : World) :
    Calls Tryd.prog 75 #[.string s, .string p] w fun e w' => e = .returned (.string ⟨(Lib.trimPrefix s.data.toList p.data.toList).toArray⟩) ∧ w' = w := Tx.trimP_calls s p w
/-- '+' or '-'. -/
def isSg (b : UInt8) : Bool := [43, 45].contains b
/-- The place of the last sign, or -1. -/
def lastS (l : List UInt8) : Int := ((l.reverse.dropWhile (fun b => !isSg b)).length : Int) - 1
theorem lastS_nil : lastS [] = -1 := rfl
theorem lastS_snoc (t : List UInt8) (b : UInt8) : lastS (t ++ [b]) = if isSg b = true then (t.length : Int) else lastS t := by
  unfold lastS
  rw [List.reverse_append, List.reverse_cons, List.reverse_nil, List.nil_append, List.singleton_append, List.dropWhile_cons]
  cases h : isSg b
  · simp
  · simp
theorem lastS_take {l : List UInt8} {k : Nat} {b : UInt8} (h : l[k]? = some b) : lastS (l.take (k + 1)) = if isSg b = true then (k : Int) else lastS (l.take k) := by
  have hk : k < l.length := by
    rcases Nat.lt_or_ge k l.length with c | c
    · exact c
    · rw [List.getElem?_eq_none c] at h; cases h
  rw [List.take_add_one, h, Option.toList_some, lastS_snoc, List.length_take, Nat.min_eq_left (by omega)]
theorem lastS_le (l : List UInt8) : -1 ≤ lastS l ∧ lastS l < l.length := by
  unfold lastS
  have : (l.reverse.dropWhile (fun b => !isSg b)).length ≤ l.reverse.length := List.Sublist.length_le (List.dropWhile_sublist _)
  rw [List.length_reverse] at this
  omega
theorem use_calls (n : Int) (w : World) : Calls Tryd.prog 103 #[.int .i64 n] w fun e w' => e = .returned (.bool (decide (8 < n))) ∧ w' = w := by
  go_enter Tryd.func103, Tryd.ntmps103
  go_wp2
  go_ret
  exact ⟨rfl, rfl⟩
set_option maxHeartbeats 8000000 in
set_option maxRecDepth 1000000 in
theorem last_long (s : ByteArray) (w : World) (h8 : 8 < s.size) (hs : s.size < 4294967281) :
    Calls Tryd.prog 87 #[.string s, .string ⟨#[43, 45]⟩] w fun e w' => e = .returned (.int .i64 (lastS s.data.toList)) ∧ Below w.heap.size w w' := by
  obtain ⟨hv, hi98⟩ := zero_of_info (show (Tryd.prog.info? 98).map (fun i => (i.zero, i.size)) = some (some (.agg (Array.replicate 256 (.bool false))), 256) by kernel_rfl)
  have hM := Any.strings_makeASCIISet Tryd.lMkSet hv hi98 ⟨#[43, 45]⟩ w (by decide) (ascii_of_all (by decide))
  change Calls Tryd.prog 96 _ _ _ at hM
  have hn1 : ((s.size : Int) == 1) = false := beq_eq_false_iff_ne.2 (by omega)
  have h8z : decide ((8 : Int) < (s.size : Int)) = true := decide_eq_true (by omega)
  have hsc : (storeCells ⟨w.heap.size + 1, 0, none⟩ (Lib.setCells [43, 45]).toList 0).run Tryd.prog ((w.alloc (.cells (Lib.setCells [43, 45]) 98)).alloc (.cells (Array.replicate 256 (.bool false)) 98)) = .ok () ((w.alloc (.cells (Lib.setCells [43, 45]) 98)).alloc (.cells (Lib.setCells [43, 45]) 98)) := by
    have := run_storeCells_new (P := Tryd.prog) (w.alloc (.cells (Lib.setCells [43, 45]) 98)) 98 (Array.replicate 256 (.bool false)) (Lib.setCells [43, 45]) (by rw [Lib.setCells_size]; exact hi98) (by rw [Lib.setCells_size, Array.size_replicate]) (Lib.setCells_one _)
    simpa using this
  have hsz := Lib.setCells_size [43, 45]
  have hcellAt : ∀ x : UInt8, ((w.alloc (.cells (Lib.setCells [43, 45]) 98)).alloc (.cells (Lib.setCells [43, 45]) 98)).cell? ⟨w.heap.size + 1, x.toNat, none⟩ = some (.bool (isSg x)) := fun x => by
    rw [World.cell?_alloc_at _ _ _ _ (by simp), Lib.setCells_at]; rfl
  have HC : Aside (∀ x : UInt8, ((w.alloc (.cells (Lib.setCells [43, 45]) 98)).alloc (.cells (Lib.setCells [43, 45]) 98)).cell? ⟨w.heap.size + 1, x.toNat, none⟩ = some (.bool (isSg x))) := hcellAt
  clear hcellAt
  have z98 := hv
  have hM' : Calls Tryd.prog 96 #[.string ⟨#[43, 45]⟩] w fun e w' => e = .returned (.tuple #[.agg (Lib.setCells [43, 45]), .bool true]) ∧ w' = w.alloc (.cells (Lib.setCells [43, 45]) 98) := hM
  clear hM
  go_enter Tryd.func87, Tryd.ntmps87
  go_wp2_with (first
    | (go_at_call 103; refine (use_calls _ _).mono ?_; rintro e w' ⟨rfl, hw⟩; rw [hw, h8z])
    | (go_at_call 96; refine hM'.mono ?_; rintro e w' ⟨rfl, hw⟩; rw [hw]))
  clear hM' hsc
  go_loopg [8] s.size (fun g s8 wx => g ≤ s.size ∧ s8 = .int .i64 ((g : Int) - 1) ∧ wx = ((w.alloc (.cells (Lib.setCells [43, 45]) 98)).alloc (.cells (Lib.setCells [43, 45]) 98)) ∧ Lib.Kept (lastS s.data.toList = lastS (s.data.toList.take g)))
  case atStart => exact ⟨Nat.le_refl _, rfl, rfl, by rw [Lib.size_eq, List.take_length]; rfl⟩
  case round =>
    obtain ⟨hg, rfl, rfl, hL⟩ := hrel
    cases gk with
    | zero =>
      have e0 : ((0 : Nat) : Int) - 1 = -1 := rfl
      rw [e0]
      go_wp2
      go_ret
      refine ⟨?_, ((Below.refl _ _).alloc (Nat.le_refl _) _).alloc (by simp) _⟩
      have hL2 : lastS s.data.toList = -1 := hL
      rw [hL2]; rfl
    | succ g =>
      have hi : g < s.size := by omega
      have hiz : (g : Int) < (s.size : Int) := by omega
      rw [show ((g + 1 : Nat) : Int) - 1 = (g : Int) by omega]
      have hwr : ((g : Int) - 1 + 9223372036854775808) % 18446744073709551616 - 9223372036854775808 = (g : Int) - 1 := by omega
      obtain ⟨x, hx⟩ : ∃ x : UInt8, s[g]'hi = x := ⟨_, rfl⟩
      have hxl : s.data.toList[g]? = some x := by rw [← hx]; exact Lib.data_getElem? s g hi
      have Hx : Lib.Kept (lastS (s.data.toList.take (g + 1)) = if isSg x = true then (g : Int) else lastS (s.data.toList.take g)) := lastS_take hxl
      clear hxl
      have hcx := HC.out x
      cases hin : isSg x <;> rw [hin] at hcx
      · have Hin : Lib.Kept (isSg x = false) := hin
        clear hin
        go_wp2_with (go_at_call 104; refine (Any.asciiSet_contains Tryd.lCont _ x _ _ hcx).mono ?_; rintro e w' ⟨rfl, hw⟩; rw [hw])
        go_roundg g
        case measure => omega
        case rel =>
          refine ⟨by omega, rfl, rfl, ?_⟩
          have h1 : lastS s.data.toList = lastS (s.data.toList.take (g + 1)) := hL
          have h2 : lastS (s.data.toList.take (g + 1)) = if isSg x = true then (g : Int) else lastS (s.data.toList.take g) := Hx
          have h3 : isSg x = false := Hin
          show lastS s.data.toList = _
          rw [h1, h2, h3]; rfl
      · have Hin : Lib.Kept (isSg x = true) := hin
        clear hin
        go_wp2_with (go_at_call 104; refine (Any.asciiSet_contains Tryd.lCont _ x _ _ hcx).mono ?_; rintro e w' ⟨rfl, hw⟩; rw [hw])
        go_ret
        refine ⟨?_, ((Below.refl _ _).alloc (Nat.le_refl _) _).alloc (by simp) _⟩
        have h1 : lastS s.data.toList = lastS (s.data.toList.take (g + 1)) := hL
        have h2 : lastS (s.data.toList.take (g + 1)) = if isSg x = true then (g : Int) else lastS (s.data.toList.take g) := Hx
        have h3 : isSg x = true := Hin
        rw [h1, h2, h3]; rfl
/-- strings.IndexRune in "+-" at an ASCII rune. -/
theorem idxR_calls (b : UInt8) (h : b.toNat < 128) (w : World) :
    Calls Tryd.prog 102 #[.string ⟨#[43, 45]⟩, .int .i32 b.toNat] w fun e w' => e = .returned (.int .i64 (Lib.indexByte [43, 45] b)) ∧ w' = w := by
  have := Any.strings_IndexRune_ascii Tryd.lIdxR ⟨#[43, 45]⟩ (b.toNat : Int) w (by omega) (by omega)
  have e : ((b.toNat : Int)).toNat.toUInt8 = b := by rw [Int.toNat_natCast]; exact UInt8.ofNat_toNat
  rw [e] at this
  exact this
theorem idx_sg (b : UInt8) : decide (Lib.indexByte [43, 45] b ≥ 0) = isSg b := by
  unfold isSg Lib.indexByte Lib.indexByte Lib.indexByte
  by_cases h1 : b = 43
  · subst h1; rfl
  · by_cases h2 : b = 45
    · subst h2; rfl
    · have e1 : ([43, 45] : List UInt8).contains b = false := by simp [h1, h2]
      rw [e1]
      simp [Ne.symm h1, Ne.symm h2]
set_option maxHeartbeats 8000000 in
set_option maxRecDepth 1000000 in
theorem last_one (s : ByteArray) (w : World) (h1 : s.size = 1) (ha : ∀ b ∈ s.data.toList, b.toNat < 128) :
    Calls Tryd.prog 87 #[.string s, .string ⟨#[43, 45]⟩] w fun e w' => e = .returned (.int .i64 (lastS s.data.toList)) ∧ Below w.heap.size w w' := by
  have hi : 0 < s.size := by omega
  have hiz : (0 : Int) < (s.size : Int) := by omega
  obtain ⟨x, hx⟩ : ∃ x : UInt8, s[0]'hi = x := ⟨_, rfl⟩
  have hl0 : s.data.toList = [x] := by
    have e := Lib.data_getElem? s 0 hi
    rw [hx] at e
    have hlen : s.data.toList.length = 1 := by rw [← Lib.size_eq]; exact h1
    match hh : s.data.toList, hlen with
    | [y], _ => rw [hh] at e; simp at e; rw [e]
  have hx1 : x.toNat < 128 := ha x (by rw [hl0]; simp)
  have hn : ¬ ((128 : Int) ≤ (x.toNat : Int)) := by omega
  have hsg := idx_sg x
  have hl : lastS s.data.toList = if isSg x = true then 0 else -1 := by rw [hl0]; exact lastS_snoc [] x
  have hz : ((s.size : Int) == 1) = true := by rw [beq_iff_eq]; omega
  clear hl0
  generalize hq : Lib.indexByte [43, 45] x = q at hsg
  have hC : ∀ w, Calls Tryd.prog 102 #[.string ⟨#[43, 45]⟩, .int .i32 x.toNat] w fun e w' => e = .returned (.int .i64 q) ∧ w' = w := fun w => by rw [← hq]; exact idxR_calls x hx1 w
  clear hq ha h1
  have HL : Lib.Kept (lastS s.data.toList = if isSg x = true then 0 else -1) := hl
  clear hl
  cases hin : isSg x
  · rw [hin] at hsg
    have Hin : Lib.Kept (isSg x = false) := hin
    clear hin
    have hsg' : decide ((0 : Int) ≤ q) = false := hsg
    clear hsg
    go_enter Tryd.func87, Tryd.ntmps87
    go_wp2_with (go_at_call 102; refine (hC _).mono ?_; rintro e w' ⟨rfl, hw⟩; rw [hw])
    go_ret
    refine ⟨?_, Below.refl _ _⟩
    have h2 : lastS s.data.toList = if isSg x = true then 0 else -1 := HL
    have h3 : isSg x = false := Hin
    rw [h2, h3]; rfl
  · rw [hin] at hsg
    have Hin : Lib.Kept (isSg x = true) := hin
    clear hin
    have hsg' : decide ((0 : Int) ≤ q) = true := hsg
    clear hsg
    go_enter Tryd.func87, Tryd.ntmps87
    go_wp2_with (go_at_call 102; refine (hC _).mono ?_; rintro e w' ⟨rfl, hw⟩; rw [hw])
    go_ret
    refine ⟨?_, Below.refl _ _⟩
    have h2 : lastS s.data.toList = if isSg x = true then 0 else -1 := HL
    have h3 : isSg x = true := Hin
    rw [h2, h3]; rfl
theorem decL_calls (t : ByteArray) (l : List UInt8) (b : UInt8) (ht : t.data.toList = l ++ [b]) (hs : t.size ≤ 9223372036854775807) (h : b.toNat < 128) (w : World) (hT : Lib.Utf8Tabs 2 3 w) :
    Calls Tryd.prog 105 #[.string t] w fun e w' => e = .returned (.tuple #[.int .i32 b.toNat, .int .i64 1]) ∧ Below w.heap.size w w' := by
  have := Any.utf8_DecodeLastRuneInString Tryd.lDecL t w hs hT
  rw [ht, Lib.decodeLastL_ascii l b h] at this
  exact this
set_option maxHeartbeats 1000000 in
set_option maxRecDepth 1000000 in
theorem last_short (s : ByteArray) (w : World) (h1 : ¬ s.size = 1) (h8 : s.size ≤ 8) (ha : ∀ b ∈ s.data.toList, b.toNat < 128) (hT : Lib.Utf8Tabs 2 3 w) :
    Calls Tryd.prog 87 #[.string s, .string ⟨#[43, 45]⟩] w fun e w' => e = .returned (.int .i64 (lastS s.data.toList)) ∧ Below w.heap.size w w' := by
  have hn1 : ((s.size : Int) == 1) = false := beq_eq_false_iff_ne.2 (by omega)
  have h8z : decide ((8 : Int) < (s.size : Int)) = false := decide_eq_false (by omega)
  have HA : Aside (∀ b ∈ s.data.toList, b.toNat < 128) := ha
  have HT : Aside (Lib.Utf8Tabs 2 3 w) := hT
  clear ha hT
  go_enter Tryd.func87, Tryd.ntmps87
  go_wp2_with (go_at_call 103; refine (use_calls _ _).mono ?_; rintro e w' ⟨rfl, hw⟩; rw [hw, h8z])
  go_loopg [13] s.size (fun g s13 wx => g ≤ s.size ∧ s13 = .int .i64 (g : Int) ∧ Below w.heap.size w wx ∧ Lib.Kept (lastS s.data.toList = lastS (s.data.toList.take g)))
  case atStart => exact ⟨Nat.le_refl _, rfl, Below.refl _ _, by rw [Lib.size_eq, List.take_length]; rfl⟩
  case round =>
    obtain ⟨hg, rfl, hB, hL⟩ := hrel
    have HB : Aside (Below w.heap.size w wr) := hB
    clear hB
    cases gk with
    | zero =>
      have e0 : ((0 : Nat) : Int) = 0 := rfl
      rw [e0]
      go_wp2
      go_ret
      refine ⟨?_, HB.out⟩
      have hL2 : lastS s.data.toList = -1 := hL
      rw [hL2]; rfl
    | succ g =>
      have hi : g < s.size := by omega
      have hiz : (0 : Int) < ((g + 1 : Nat) : Int) := by omega
      have hiz2 : ((g + 1 : Nat) : Int) ≤ (s.size : Int) := by omega
      have hwr : (((g + 1 : Nat) : Int) - 1 + 9223372036854775808) % 18446744073709551616 - 9223372036854775808 = (g : Int) := by omega
      obtain ⟨x, hx⟩ : ∃ x : UInt8, s[g]'hi = x := ⟨_, rfl⟩
      have hxl : s.data.toList[g]? = some x := by rw [← hx]; exact Lib.data_getElem? s g hi
      have hx1 : x.toNat < 128 := HA.out x (List.mem_of_getElem? hxl)
      have Hx : Lib.Kept (lastS (s.data.toList.take (g + 1)) = if isSg x = true then (g : Int) else lastS (s.data.toList.take g)) := lastS_take hxl
      have htl : (s.extract 0 (g + 1)).data.toList = s.data.toList.take g ++ [x] := by
        rw [ByteArray.data_extract, Array.toList_extract, List.extract_eq_take_drop, List.drop_zero, Nat.sub_zero, List.take_add_one, hxl]; rfl
      have hts : (s.extract 0 (g + 1)).size ≤ 9223372036854775807 := by
        rw [Lib.size_eq, htl, List.length_append, List.length_take, ← Lib.size_eq]; simp; omega
      have hD : Aside (∀ w1, Lib.Utf8Tabs 2 3 w1 → Calls Tryd.prog 105 #[.string (s.extract 0 (g + 1))] w1 fun e w' => e = .returned (.tuple #[.int .i32 x.toNat, .int .i64 1]) ∧ Below w1.heap.size w1 w') := fun w1 h1 => decL_calls _ _ x htl hts hx1 w1 h1
      have hsg := idx_sg x
      generalize hq : Lib.indexByte [43, 45] x = q at hsg
      have hC : Aside (∀ w, Calls Tryd.prog 102 #[.string ⟨#[43, 45]⟩, .int .i32 x.toNat] w fun e w' => e = .returned (.int .i64 q) ∧ w' = w) := fun w => by rw [← hq]; exact idxR_calls x hx1 w
      clear hxl htl hts hq
      cases hin : isSg x
      · rw [hin] at hsg
        have hsg' : decide ((0 : Int) ≤ q) = false := hsg
        have Hin : Lib.Kept (isSg x = false) := hin
        clear hin hsg
        go_wp2_with (first
          | (go_at_call 105; refine (hD.out _ (utf_below HT.out HB.out)).mono ?_; rintro e w1 ⟨rfl, hb⟩; have HB2 : Aside (Below w.heap.size w w1) := HB.out.trans (hb.mono HB.out.size); clear hb)
          | (go_at_call 102; refine (hC.out _).mono ?_; rintro e w' ⟨rfl, hw⟩; rw [hw]))
        go_roundg g
        case measure => omega
        case rel =>
          refine ⟨by omega, rfl, HB2.out, ?_⟩
          have h1 : lastS s.data.toList = lastS (s.data.toList.take (g + 1)) := hL
          have h2 : lastS (s.data.toList.take (g + 1)) = if isSg x = true then (g : Int) else lastS (s.data.toList.take g) := Hx
          have h3 : isSg x = false := Hin
          show lastS s.data.toList = _
          rw [h1, h2, h3]; rfl
      · rw [hin] at hsg
        have hsg' : decide ((0 : Int) ≤ q) = true := hsg
        have Hin : Lib.Kept (isSg x = true) := hin
        clear hin hsg
        go_wp2_with (first
          | (go_at_call 105; refine (hD.out _ (utf_below HT.out HB.out)).mono ?_; rintro e w1 ⟨rfl, hb⟩; have HB2 : Aside (Below w.heap.size w w1) := HB.out.trans (hb.mono HB.out.size); clear hb)
          | (go_at_call 102; refine (hC.out _).mono ?_; rintro e w' ⟨rfl, hw⟩; rw [hw]))
        go_ret
        refine ⟨?_, HB2.out⟩
        have h1 : lastS s.data.toList = lastS (s.data.toList.take (g + 1)) := hL
        have h2 : lastS (s.data.toList.take (g + 1)) = if isSg x = true then (g : Int) else lastS (s.data.toList.take g) := Hx
        have h3 : isSg x = true := Hin
        rw [h1, h2, h3]; rfl
/-- strings.LastIndexAny at "+-", on ASCII bytes. -/
theorem last_calls (s : ByteArray) (w : World) (hs : s.size < 4294967281) (ha : ∀ b ∈ s.data.toList, b.toNat < 128) (hT : TabP w) :
    Calls Tryd.prog 87 #[.string s, .string ⟨#[43, 45]⟩] w fun e w' => e = .returned (.int .i64 (lastS s.data.toList)) ∧ Below w.heap.size w w' := by
  by_cases h1 : s.size = 1
  · exact last_one s w h1 ha
  · by_cases h8 : s.size ≤ 8
    · exact last_short s w h1 h8 ha hT.2
    · exact last_long s w (by omega) hs
end Go.Proofs.YthofcclbkihemaaDoor.Ty
