/-
  The texts Shelf, Sc1, Sc2, Sc3, Sc4, Sc5, Sc6 of the proofs about scripts, as one file (they are merged by a program).
-/
import Derived.Shelf.Strings.OnBuilder
import Derived.Shelf.Strings.Cut
import Derived.Shelf.LaysM
import Derived.Shelf.Strings.Prefix
import Derived.Shelf.Strings.Split
import Derived.Shelf.Strings.SplitShaped
import Derived.Shelf.Slices.Turned
import Derived.Test.YtdhdknjefjolpaaDoorProg
import Derived.Test.YtdhdknjefjolpaaDoorA1
import Derived.Test.YtdhdknjefjolpaaDoorA2
import Derived.Deep.MidRow
section
/-
  DERIVED: THE SHELF's CONTRACTS AT THIS DUMP, IN PLAIN WORDS (tools/lay-plain.mjs out of 'ShelfScratch.lean', which tools/lay-shelf.mjs wrote): THE SAME DECLARATIONS UNDER THE SAME NAMES: 'import', 'namespace', 'open', 'def', 'theorem' AND NOTHING ELSE: no command of the shelf's: FOR A HAND-IN. Each laying: the table of numbers ('.._ren') and one theorem, a field a fact of the dump's own or the kernel's comparison; each contract: ONE APPLICATION.
-/
namespace Go.Proofs
open Go.Shelf
def Tryd.lays156_ren : Go.Shelf.Ren := ⟨fun | 156 => 67 | 165 => 85 | 166 => 37 | 169 => 47 | 240 => 66 | 241 => 93 | 276 => 84 | 277 => 101 | n => n, fun | 31 => 45 | 9 => 9 | 3 => 3 | 4 => 4 | 0 => 0 | 20 => 20 | 72 => 76 | 76 => 81 | 70 => 74 | 37 => 22 | 75 => 80 | 127 => 117 | 164 => 129 | 5 => 5 | 80 => 96 | n => n, fun | n => n⟩
theorem Tryd.lays156 : Go.Proofs.Lays.n156 Tryd.prog Tryd.lays156_ren := {
  mixed := by kernel_rfl
  f156 := Tryd.func67.trans (congrArg some (by kernel_rfl))
  f165 := Tryd.func85.trans (congrArg some (by kernel_rfl))
  f166 := Tryd.func37.trans (congrArg some (by kernel_rfl))
  f169 := Tryd.func47.trans (congrArg some (by kernel_rfl))
  f240 := Tryd.func66.trans (congrArg some (by kernel_rfl))
  f241 := Tryd.func93.trans (congrArg some (by kernel_rfl))
  f276 := Tryd.func84.trans (congrArg some (by kernel_rfl))
  f277 := Tryd.func101.trans (congrArg some (by kernel_rfl))
  t0 := Tryd.underlying0
  a0 := Tryd.isAgg0
  z0 := Tryd.sizeOf0
  v0 := Tryd.zeroValue0
  t3 := Tryd.underlying3
  a3 := Tryd.isAgg3
  z3 := Tryd.sizeOf3
  v3 := Tryd.zeroValue3
  t4 := Tryd.underlying4
  a4 := Tryd.isAgg4
  z4 := Tryd.sizeOf4
  v4 := Tryd.zeroValue4
  t9 := Tryd.underlying9
  a9 := Tryd.isAgg9
  z9 := Tryd.sizeOf9
  v9 := Tryd.zeroValue9
  t20 := Tryd.underlying20
  a20 := Tryd.isAgg20
  z20 := Tryd.sizeOf20
  v20 := Tryd.zeroValue20
  t31 := Tryd.underlying45
  a31 := Tryd.isAgg45
  z31 := Tryd.sizeOf45
  v31 := Tryd.zeroValue45
  t37 := Tryd.underlying22
  a37 := Tryd.isAgg22
  z37 := Tryd.sizeOf22
  v37 := Tryd.zeroValue22
  t70 := Tryd.underlying74
  a70 := Tryd.isAgg74
  z70 := Tryd.sizeOf74
  v70 := Tryd.zeroValue74
  t72 := Tryd.underlying76
  a72 := Tryd.isAgg76
  z72 := Tryd.sizeOf76
  v72 := Tryd.zeroValue76
  t75 := Tryd.underlying80
  a75 := Tryd.isAgg80
  z75 := Tryd.sizeOf80
  v75 := Tryd.zeroValue80
  t76 := Tryd.underlying81
  a76 := Tryd.isAgg81
  z76 := Tryd.sizeOf81
  v76 := Tryd.zeroValue81
  t127 := Tryd.underlying117
  a127 := Tryd.isAgg117
  z127 := Tryd.sizeOf117
  v127 := Tryd.zeroValue117
  t164 := Tryd.underlying129
  a164 := Tryd.isAgg129
  z164 := Tryd.sizeOf129
  v164 := Tryd.zeroValue129 }
theorem Tryd.Builder_Extra_156 : Builder.Extra Tryd.prog Tryd.lays156_ren := {
  sizeBuilder := by kernel_rfl
  liesBuilder := by kernel_rfl
  t5 := Tryd.underlying5
  a5 := Tryd.isAgg5
  z5 := Tryd.sizeOf5
  v5 := Tryd.zeroValue5
  infoByte := by kernel_rfl
  cellsByte := by kernel_rfl
  sizeByte := by kernel_rfl
  neB5 := by decide }
open Go.RowKit in
/-- strings.Join: "Join concatenates the elements of its first argument to create a single string. The separator string sep is placed between elements in the resulting string.": HOWEVER MANY ELEMENTS. Below the heap's end the world is as it was. (LAID: no walk: one application.) -/
theorem Tryd.strings_Join (bk o c : Nat) (xs : List ByteArray) (sep : ByteArray) (w : World) (hcells : ∀ (j : Nat) x, xs[j]? = some x → w.cell? ⟨bk, o + j, none⟩ = some (.string x)) (hbk : bk < w.heap.size) (hN : xs.length ≤ 140737488355328) (hcap : xs.length ≤ c) (hlen : (Lib.join (xs.map (·.data.toList)) sep.data.toList).length ≤ 140737488355328) :
    Calls Tryd.prog 67 #[.slice (some ⟨bk, o, none⟩) xs.length c, .string sep] w fun e w' => e = .returned (.string ⟨(Lib.join (xs.map (·.data.toList)) sep.data.toList).toArray⟩) ∧ Below w.heap.size w w' := Any.strings_Join Tryd.lays156 Tryd.Builder_Extra_156 bk o c xs sep w hcells hbk hN hcap hlen
def Tryd.lays145_ren : Go.Shelf.Ren := ⟨fun | 145 => 56 | 220 => 76 | 219 => 91 | 217 => 97 | 225 => 98 | 224 => 99 | 267 => 100 | 266 => 103 | 314 => 104 | n => n, fun | 9 => 9 | 4 => 4 | 59 => 106 | 3 => 3 | 5 => 5 | 46 => 142 | 146 => 144 | 51 => 91 | n => n, fun | 1 => 0 | n => n⟩
theorem Tryd.lays145 : Go.Proofs.Lays.n145 Tryd.prog Tryd.lays145_ren := {
  mixed := by kernel_rfl
  f145 := Tryd.func56.trans (congrArg some (by kernel_rfl))
  f217 := Tryd.func97.trans (congrArg some (by kernel_rfl))
  f219 := Tryd.func91.trans (congrArg some (by kernel_rfl))
  f220 := Tryd.func76.trans (congrArg some (by kernel_rfl))
  f224 := Tryd.func99.trans (congrArg some (by kernel_rfl))
  f225 := Tryd.func98.trans (congrArg some (by kernel_rfl))
  f266 := Tryd.func103.trans (congrArg some (by kernel_rfl))
  f267 := Tryd.func100.trans (congrArg some (by kernel_rfl))
  f314 := Tryd.func104.trans (congrArg some (by kernel_rfl))
  t3 := Tryd.underlying3
  a3 := Tryd.isAgg3
  z3 := Tryd.sizeOf3
  v3 := Tryd.zeroValue3
  t4 := Tryd.underlying4
  a4 := Tryd.isAgg4
  z4 := Tryd.sizeOf4
  v4 := Tryd.zeroValue4
  t5 := Tryd.underlying5
  a5 := Tryd.isAgg5
  z5 := Tryd.sizeOf5
  v5 := Tryd.zeroValue5
  t9 := Tryd.underlying9
  a9 := Tryd.isAgg9
  z9 := Tryd.sizeOf9
  v9 := Tryd.zeroValue9
  t46 := Tryd.underlying142
  a46 := Tryd.isAgg142
  z46 := Tryd.sizeOf142
  v46 := Tryd.zeroValue142
  t51 := Tryd.underlying91
  a51 := Tryd.isAgg91
  z51 := Tryd.sizeOf91
  v51 := Tryd.zeroValue91
  t59 := Tryd.underlying106
  a59 := Tryd.isAgg106
  z59 := Tryd.sizeOf106
  v59 := Tryd.zeroValue106
  t146 := Tryd.underlying144
  a146 := Tryd.isAgg144
  z146 := Tryd.sizeOf144
  v146 := Tryd.zeroValue144
  g1 := by kernel_rfl }
open Go.RowKit Go.Lib in
/-- strings.Cut: "Cut slices s around the first instance of sep, returning the text before and after sep. The found result reports whether sep appears in s. If sep does not appear in s, cut returns s, "", false.": IT RETURNS 'Lib.cut s sep'; the world is as it was but for the count of draws. (LAID: no walk: one application.) -/
theorem Tryd.strings_Cut (s sep : ByteArray) (m : Int) (w : World) (hs : s.size < 4294967281) (hm : w.cell? ⟨0, 0, none⟩ = some (.int .i64 m)) :
    Calls Tryd.prog 56 #[.string s, .string sep] w fun e w' => e = .returned (.tuple #[.string ⟨(Lib.cut s.data.toList sep.data.toList).1.toArray⟩, .string ⟨(Lib.cut s.data.toList sep.data.toList).2.1.toArray⟩, .bool (Lib.cut s.data.toList sep.data.toList).2.2]) ∧ ∃ n, w' = w.drewN n := Any.strings_Cut Tryd.lays145 s sep m w hs hm
def Tryd.lays100_ren : Go.Shelf.Ren := ⟨fun | 100 => 32 | 207 => 57 | n => n, fun | 9 => 9 | 4 => 4 | 3 => 3 | n => n, fun | n => n⟩
theorem Tryd.lays100 : Go.Proofs.Lays.n100 Tryd.prog Tryd.lays100_ren := {
  mixed := by kernel_rfl
  f100 := Tryd.func32.trans (congrArg some (by kernel_rfl))
  f207 := Tryd.func57.trans (congrArg some (by kernel_rfl))
  t3 := Tryd.underlying3
  a3 := Tryd.isAgg3
  z3 := Tryd.sizeOf3
  v3 := Tryd.zeroValue3
  t4 := Tryd.underlying4
  a4 := Tryd.isAgg4
  z4 := Tryd.sizeOf4
  v4 := Tryd.zeroValue4
  t9 := Tryd.underlying9
  a9 := Tryd.isAgg9
  z9 := Tryd.sizeOf9
  v9 := Tryd.zeroValue9 }
open Go.RowKit Go.Lib in
/-- strings.HasSuffix: "HasSuffix reports whether the string s ends with suffix.": IT RETURNS 'Lib.hasSuffix s suffix'; the world is as it was. ('hs': no Go string is longer: a caller has it of every string that it was handed.) (LAID: no walk: one application.) -/
theorem Tryd.strings_HasSuffix (s p : ByteArray) (w : World) (hs : s.size ≤ 9223372036854775807) :
    Calls Tryd.prog 32 #[.string s, .string p] w fun e w' => e = .returned (.bool (Lib.hasSuffix s.data.toList p.data.toList)) ∧ w' = w := Any.strings_HasSuffix Tryd.lays100 s p w hs
def Tryd.lays146_ren : Go.Shelf.Ren := ⟨fun | 146 => 51 | 221 => 73 | 268 => 87 | 138 => 88 | 143 => 89 | 195 => 94 | 197 => 95 | 218 => 96 | 219 => 91 | 260 => 102 | 217 => 97 | 225 => 98 | 224 => 99 | 267 => 100 | 266 => 103 | 314 => 104 | n => n, fun | 9 => 9 | 31 => 45 | 3 => 3 | 4 => 4 | 0 => 0 | 105 => 138 | 21 => 21 | 5 => 5 | 46 => 142 | 119 => 146 | 139 => 149 | 138 => 148 | 146 => 144 | 51 => 91 | n => n, fun | 1 => 0 | 3 => 1 | 4 => 2 | n => n⟩
theorem Tryd.lays146 : Go.Proofs.Lays.n146 Tryd.prog Tryd.lays146_ren := {
  mixed := by kernel_rfl
  f138 := Tryd.func88.trans (congrArg some (by kernel_rfl))
  f143 := Tryd.func89.trans (congrArg some (by kernel_rfl))
  f146 := Tryd.func51.trans (congrArg some (by kernel_rfl))
  f195 := Tryd.func94.trans (congrArg some (by kernel_rfl))
  f197 := Tryd.func95.trans (congrArg some (by kernel_rfl))
  f217 := Tryd.func97.trans (congrArg some (by kernel_rfl))
  f218 := Tryd.func96.trans (congrArg some (by kernel_rfl))
  f219 := Tryd.func91.trans (congrArg some (by kernel_rfl))
  f221 := Tryd.func73.trans (congrArg some (by kernel_rfl))
  f224 := Tryd.func99.trans (congrArg some (by kernel_rfl))
  f225 := Tryd.func98.trans (congrArg some (by kernel_rfl))
  f260 := Tryd.func102.trans (congrArg some (by kernel_rfl))
  f266 := Tryd.func103.trans (congrArg some (by kernel_rfl))
  f267 := Tryd.func100.trans (congrArg some (by kernel_rfl))
  f268 := Tryd.func87.trans (congrArg some (by kernel_rfl))
  f314 := Tryd.func104.trans (congrArg some (by kernel_rfl))
  t0 := Tryd.underlying0
  a0 := Tryd.isAgg0
  z0 := Tryd.sizeOf0
  v0 := Tryd.zeroValue0
  t3 := Tryd.underlying3
  a3 := Tryd.isAgg3
  z3 := Tryd.sizeOf3
  v3 := Tryd.zeroValue3
  t4 := Tryd.underlying4
  a4 := Tryd.isAgg4
  z4 := Tryd.sizeOf4
  v4 := Tryd.zeroValue4
  t5 := Tryd.underlying5
  a5 := Tryd.isAgg5
  z5 := Tryd.sizeOf5
  v5 := Tryd.zeroValue5
  t9 := Tryd.underlying9
  a9 := Tryd.isAgg9
  z9 := Tryd.sizeOf9
  v9 := Tryd.zeroValue9
  t21 := Tryd.underlying21
  a21 := Tryd.isAgg21
  z21 := Tryd.sizeOf21
  v21 := Tryd.zeroValue21
  t31 := Tryd.underlying45
  a31 := Tryd.isAgg45
  z31 := Tryd.sizeOf45
  v31 := Tryd.zeroValue45
  t46 := Tryd.underlying142
  a46 := Tryd.isAgg142
  z46 := Tryd.sizeOf142
  v46 := Tryd.zeroValue142
  t51 := Tryd.underlying91
  a51 := Tryd.isAgg91
  z51 := Tryd.sizeOf91
  v51 := Tryd.zeroValue91
  t105 := Tryd.underlying138
  a105 := Tryd.isAgg138
  z105 := Tryd.sizeOf138
  v105 := Tryd.zeroValue138
  t119 := Tryd.underlying146
  a119 := Tryd.isAgg146
  z119 := Tryd.sizeOf146
  t138 := Tryd.underlying148
  a138 := Tryd.isAgg148
  z138 := Tryd.sizeOf148
  v138 := Tryd.zeroValue148
  t139 := Tryd.underlying149
  a139 := Tryd.isAgg149
  z139 := Tryd.sizeOf149
  v139 := Tryd.zeroValue149
  t146 := Tryd.underlying144
  a146 := Tryd.isAgg144
  z146 := Tryd.sizeOf144
  v146 := Tryd.zeroValue144
  g1 := by kernel_rfl
  g3 := by kernel_rfl
  g4 := by kernel_rfl }
open Go.RowKit Go.Lib in
/-- strings.Split. (LAID: no walk: one application.) -/
theorem Tryd.strings_Split (s sep : ByteArray) (m : Int) (w : World) (hs : s.size < 4294967281) (hm : w.cell? ⟨0, 0, none⟩ = some (.int .i64 m)) (h1 : 1 ≤ sep.size) :
    Calls Tryd.prog 51 #[.string s, .string sep] w fun e w' =>
      e = .returned (.slice (some ⟨w.heap.size, 0, none⟩) (Lib.countB s sep + 1) (Lib.countB s sep + 1)) ∧ w' = w.alloc (.cells ((Lib.splitB sep 0 (Lib.countB s sep) s).map Value.string).toArray 9) := Any.strings_Split Tryd.lays146 (by kernel_rfl) s sep m w hs hm h1
def Tryd.lays109_ren : Go.Shelf.Ren := ⟨fun | 109 => 80 | n => n, fun | 31 => 45 | 9 => 9 | 3 => 3 | 0 => 0 | 4 => 4 | n => n, fun | n => n⟩
theorem Tryd.lays109 : Go.Proofs.Lays.n109 Tryd.prog Tryd.lays109_ren := {
  mixed := by kernel_rfl
  f109 := Tryd.func80.trans (congrArg some (by kernel_rfl))
  t0 := Tryd.underlying0
  a0 := Tryd.isAgg0
  z0 := Tryd.sizeOf0
  v0 := Tryd.zeroValue0
  t3 := Tryd.underlying3
  a3 := Tryd.isAgg3
  z3 := Tryd.sizeOf3
  v3 := Tryd.zeroValue3
  t4 := Tryd.underlying4
  a4 := Tryd.isAgg4
  z4 := Tryd.sizeOf4
  v4 := Tryd.zeroValue4
  t9 := Tryd.underlying9
  a9 := Tryd.isAgg9
  z9 := Tryd.sizeOf9
  v9 := Tryd.zeroValue9
  t31 := Tryd.underlying45
  a31 := Tryd.isAgg45
  z31 := Tryd.sizeOf45
  v31 := Tryd.zeroValue45 }
open Go.Lib in
/-- slices.Index at []string: "Index returns the index of the first occurrence of v in s, or -1 if not present.": IT RETURNS 'Lib.idxOfS (the elements) v'; the world is as it was. 'zs': what the cells behind the slice's address hold (its spare capacity too, if you have it); 'zs.take n': its elements. (LAID: no walk: one application.) -/
theorem Tryd.slices_Index_string (b off n c : Nat) (zs : List ByteArray) (x : ByteArray) (w : World) (hz : n ≤ zs.length) (hbig : n ≤ 9223372036854775807) (hc : ∀ j, j < zs.length → w.cell? ⟨b, off + j, none⟩ = some (.string (zs.getD j ByteArray.empty))) :
    Calls Tryd.prog 80 #[.slice (some ⟨b, off, none⟩) n c, .string x] w fun e w' => e = .returned (.int .i64 (Lib.idxOfS (zs.take n) x)) ∧ w' = w := Any.slices_Index_string Tryd.lays109 b off n c zs x w hz hbig hc
end Go.Proofs
end
section
/-
  script, gannetref33: Number.
-/
namespace Go.Proofs.YtdhdknjefjolpaaDoor
set_option linter.unusedSimpArgs false
set_option linter.unusedVariables false
set_option maxRecDepth 10000
open Go.RowKit Go.Shelf Pl
def isD (c : UInt8) : Bool := decide (48 ≤ c.toNat) && decide (c.toNat ≤ 57)
/-- Decimal digits, read on. -/
def numF : List UInt8 → Nat → Option Nat
  | [], a => some a
  | c :: r, a => if isD c then numF r (10 * a + (c.toNat - 48)) else none
/-- A number of a text: value and error. -/
def numV (l : List UInt8) : Nat × Nat :=
  if l.length = 0 then (0, 4) else if 18 < l.length then (0, 2) else if 1 < l.length ∧ l[0]? = some 48 then (0, 3) else match numF l 0 with
    | none => (0, 3)
    | some n => (n, 0)
theorem ba_at {S : ByteArray} {k : Nat} {c : UInt8} (h : S.data.toList[k]? = some c) : ∀ hk, S[k]'hk = c := fun hk => by
  have h2 : S.data[k]? = some c := by simpa using h
  obtain ⟨h3, h4⟩ := Array.getElem?_eq_some_iff.1 h2
  exact h4
theorem ba_len (S : ByteArray) : S.data.toList.length = S.size := Array.length_toList
theorem u8_ne {a b : UInt8} (h : a ≠ b) : ((a.toNat : Int) == (b.toNat : Int)) = false := by
  rw [beq_eq_false_iff_ne]
  intro e
  exact h (UInt8.toNat_inj.1 (by omega))
theorem ba_nil {S : ByteArray} (h : S.size = 0) : S = ⟨#[]⟩ := by
  apply ByteArray.ext
  exact Array.eq_empty_of_size_eq_zero h
theorem ba_ne {S : ByteArray} (h : S.size ≠ 0) : (S.toList == []) = false := by
  rw [ByteArray.toList_eq, beq_eq_false_iff_ne]
  intro e
  have := ba_len S
  rw [e] at this
  exact h this.symm
theorem drop_at {l : List UInt8} {k : Nat} {c : UInt8} (h : l[k]? = some c) : l.drop k = c :: l.drop (k + 1) := by
  obtain ⟨h1, h2⟩ := List.getElem?_eq_some_iff.1 h
  rw [List.drop_eq_getElem_cons h1, h2]
/-- Behind k digits. -/
def NumI (l : List UInt8) (k a : Nat) : Prop := numF (l.drop k) a = numF l 0 ∧ a < 10 ^ k
theorem NumI.next {l : List UInt8} {k a : Nat} {c : UInt8} (h : NumI l k a) (hc : l[k]? = some c) (hd : isD c = true) : NumI l (k + 1) (10 * a + (c.toNat - 48)) := by
  obtain ⟨h1, h2⟩ := h
  refine ⟨?_, ?_⟩
  · rw [drop_at hc, numF, if_pos hd] at h1
    exact h1
  · unfold isD at hd
    simp only [Bool.and_eq_true, decide_eq_true_eq] at hd
    rw [Nat.pow_succ]
    omega
theorem NumI.bad {l : List UInt8} {k a : Nat} {c : UInt8} (h : NumI l k a) (hc : l[k]? = some c) (hd : isD c = false) : numF l 0 = none := by
  rw [← h.1, drop_at hc, numF, hd]
  rfl
theorem NumI.done {l : List UInt8} {a : Nat} (h : NumI l l.length a) : numF l 0 = some a := by
  rw [← h.1, List.drop_length, numF]
theorem pow_le (k : Nat) (h : k ≤ 18) : 10 ^ k ≤ 1000000000000000000 := Nat.le_trans (Nat.pow_le_pow_right (by omega) h) (by decide)
set_option maxHeartbeats 4000000 in
theorem num_calls (S : ByteArray) (w : World) :
    Calls Tryd.prog 18 #[.string S] w fun e w' => e = .returned (.tuple #[.int .i64 ((numV S.data.toList).1 : Int), .int .i64 ((numV S.data.toList).2 : Int)]) ∧ Below w.heap.size w w' := by
  have hl := ba_len S
  unfold numV
  rw [hl]
  by_cases h0 : S.size = 0
  · obtain rfl := ba_nil h0
    rw [if_pos h0]
    go_enter Tryd.func18, Tryd.ntmps18
    go_wp2_with fail
    go_ret2
    exact ⟨rfl, Below.refl _ _⟩
  rw [if_neg h0]
  have hne := ba_ne h0
  by_cases h18 : 18 < S.size
  · rw [if_pos h18]
    have i1 : (18 : Int) < (S.size : Int) := by omega
    go_enter Tryd.func18, Tryd.ntmps18
    go_wp2_with fail
    go_ret2
    exact ⟨rfl, Below.refl _ _⟩
  rw [if_neg h18]
  have i18 : (decide ((18 : Int) < (S.size : Int))) = false := decide_eq_false (by omega)
  have j18 : (decide (18 < S.size)) = false := decide_eq_false h18
  obtain ⟨c0, hc0⟩ : ∃ c, S.data.toList[0]? = some c := ⟨_, List.getElem?_eq_getElem (by omega)⟩
  have e0 := ba_at hc0
  rw [hc0]
  by_cases hA : 1 < S.size ∧ c0 = 48
  · rw [if_pos ⟨hA.1, by rw [hA.2]⟩]
    have i1 : (1 : Int) < (S.size : Int) := by omega
    have i2 : ((c0.toNat : Int) == 48) = true := by rw [hA.2]; rfl
    clear hA
    go_enter Tryd.func18, Tryd.ntmps18
    go_wp2_with fail
    go_ret2
    exact ⟨rfl, Below.refl _ _⟩
  rw [if_neg (fun h => hA ⟨h.1, Option.some.inj h.2⟩)]
  have hA2 : (1 < S.size ∧ ((c0.toNat : Int) == 48) = false) ∨ ¬ 1 < S.size := by
    by_cases h : 1 < S.size
    · exact Or.inl ⟨h, u8_ne fun e => hA ⟨h, e⟩⟩
    · exact Or.inr h
  clear hA
  obtain ⟨R, hR⟩ : ∃ R : Nat × Nat, (match numF S.data.toList 0 with | none => (0, 3) | some n => (n, 0)) = R := ⟨_, rfl⟩
  rw [hR]
  have HR := hide hR
  clear hR
  rcases hA2 with ⟨g1, g2⟩ | g1
  · have i1 : (1 : Int) < (S.size : Int) := by omega
    go_enter Tryd.func18, Tryd.ntmps18
    go_wp2_with fail
    go_loopw [4, 24] (fun v4 v24 wr => ∃ k a : Nat, k ≤ S.size ∧ v24 = .int .i64 (k : Int) ∧ v4 = .int .i64 (a : Int) ∧ NumI S.data.toList k a ∧ w = wr) (fun _ v24 _ => S.size - (intOf v24).toNat)
    case atStart => exact ⟨0, 0, by omega, rfl, rfl, ⟨rfl, by decide⟩, rfl⟩
    case round =>
      obtain ⟨k, a, hk, rfl, rfl, hI, rfl⟩ := hrel
      rcases Nat.lt_or_ge k S.size with hlt | hge
      · obtain ⟨c, hc⟩ : ∃ c, S.data.toList[k]? = some c := ⟨_, List.getElem?_eq_getElem (by omega)⟩
        have ek := ba_at hc
        have k1 : (k : Int) < (S.size : Int) := by omega
        have ha : a < 100000000000000000 := Nat.lt_of_lt_of_le hI.2 (Nat.le_trans (Nat.pow_le_pow_right (by omega) (show k ≤ 17 by omega)) (by decide))
        have hb := UInt8.toNat_lt c
        by_cases hd : isD c = true
        · have hN := hI.next hc hd
          unfold isD at hd
          simp only [Bool.and_eq_true, decide_eq_true_eq] at hd
          obtain ⟨q, hq⟩ : ∃ q, c.toNat = q + 48 := ⟨c.toNat - 48, by omega⟩
          have d1 : (decide ((c.toNat : Int) < 48)) = false := decide_eq_false (by omega)
          have d2 : (decide ((57 : Int) < (c.toNat : Int))) = false := decide_eq_false (by omega)
          have d3 : (decide (c.toNat < 48)) = false := decide_eq_false (by omega)
          have d4 : (decide (57 < c.toNat)) = false := decide_eq_false (by omega)
          have d5 : (c.toNat : Int) - 48 = (q : Int) := by omega
          have hq9 : q ≤ 9 := by omega
          rw [show c.toNat - 48 = q by omega] at hN
          clear hd hq hI hne
          go_wp2_with fail
          go_roundw
          case rel => exact ⟨k + 1, 10 * a + q, by omega, by go_num, by go_num, hN, by first | rfl | trivial⟩
          case measure => simp [intOf]; omega
        · have hB := hI.bad hc (by simpa using hd)
          unfold isD at hd
          simp only [Bool.and_eq_true, decide_eq_true_eq] at hd
          have hR := HR.out
          rw [hB] at hR
          subst hR
          rcases Nat.lt_or_ge c.toNat 48 with g1 | g1
          · have d1 : (c.toNat : Int) < 48 := by omega
            clear hd hI hne
            go_wp2_with fail
            go_ret2
            exact ⟨rfl, Below.refl _ _⟩
          · have d1 : (decide ((c.toNat : Int) < 48)) = false := decide_eq_false (by omega)
            have d3 : (decide (c.toNat < 48)) = false := decide_eq_false (by omega)
            have d2 : (57 : Int) < (c.toNat : Int) := by omega
            clear hd hI hne
            go_wp2_with fail
            go_ret2
            exact ⟨rfl, Below.refl _ _⟩
      · obtain rfl : k = S.size := by omega
        have k2 : (decide ((S.size : Int) < (S.size : Int))) = false := decide_eq_false (by omega)
        have hD := NumI.done (l := S.data.toList) (a := a) (by rw [hl]; exact hI)
        have hR := HR.out
        rw [hD] at hR
        subst hR
        go_wp2_with fail
        go_ret2
        exact ⟨rfl, Below.refl _ _⟩
  · have i1 : (decide ((1 : Int) < (S.size : Int))) = false := decide_eq_false (by omega)
    have i2 : (decide (1 < S.size)) = false := decide_eq_false g1
    go_enter Tryd.func18, Tryd.ntmps18
    go_wp2_with fail
    go_loopw [4, 24] (fun v4 v24 wr => ∃ k a : Nat, k ≤ S.size ∧ v24 = .int .i64 (k : Int) ∧ v4 = .int .i64 (a : Int) ∧ NumI S.data.toList k a ∧ w = wr) (fun _ v24 _ => S.size - (intOf v24).toNat)
    case atStart => exact ⟨0, 0, by omega, rfl, rfl, ⟨rfl, by decide⟩, rfl⟩
    case round =>
      obtain ⟨k, a, hk, rfl, rfl, hI, rfl⟩ := hrel
      rcases Nat.lt_or_ge k S.size with hlt | hge
      · obtain ⟨c, hc⟩ : ∃ c, S.data.toList[k]? = some c := ⟨_, List.getElem?_eq_getElem (by omega)⟩
        have ek := ba_at hc
        have k1 : (k : Int) < (S.size : Int) := by omega
        have ha : a < 100000000000000000 := Nat.lt_of_lt_of_le hI.2 (Nat.le_trans (Nat.pow_le_pow_right (by omega) (show k ≤ 17 by omega)) (by decide))
        have hb := UInt8.toNat_lt c
        by_cases hd : isD c = true
        · have hN := hI.next hc hd
          unfold isD at hd
          simp only [Bool.and_eq_true, decide_eq_true_eq] at hd
          obtain ⟨q, hq⟩ : ∃ q, c.toNat = q + 48 := ⟨c.toNat - 48, by omega⟩
          have d1 : (decide ((c.toNat : Int) < 48)) = false := decide_eq_false (by omega)
          have d2 : (decide ((57 : Int) < (c.toNat : Int))) = false := decide_eq_false (by omega)
          have d3 : (decide (c.toNat < 48)) = false := decide_eq_false (by omega)
          have d4 : (decide (57 < c.toNat)) = false := decide_eq_false (by omega)
          have d5 : (c.toNat : Int) - 48 = (q : Int) := by omega
          have hq9 : q ≤ 9 := by omega
          rw [show c.toNat - 48 = q by omega] at hN
          clear hd hq hI hne
          go_wp2_with fail
          go_roundw
          case rel => exact ⟨k + 1, 10 * a + q, by omega, by go_num, by go_num, hN, by first | rfl | trivial⟩
          case measure => simp [intOf]; omega
        · have hB := hI.bad hc (by simpa using hd)
          unfold isD at hd
          simp only [Bool.and_eq_true, decide_eq_true_eq] at hd
          have hR := HR.out
          rw [hB] at hR
          subst hR
          rcases Nat.lt_or_ge c.toNat 48 with g1 | g1
          · have d1 : (c.toNat : Int) < 48 := by omega
            clear hd hI hne
            go_wp2_with fail
            go_ret2
            exact ⟨rfl, Below.refl _ _⟩
          · have d1 : (decide ((c.toNat : Int) < 48)) = false := decide_eq_false (by omega)
            have d3 : (decide (c.toNat < 48)) = false := decide_eq_false (by omega)
            have d2 : (57 : Int) < (c.toNat : Int) := by omega
            clear hd hI hne
            go_wp2_with fail
            go_ret2
            exact ⟨rfl, Below.refl _ _⟩
      · obtain rfl : k = S.size := by omega
        have k2 : (decide ((S.size : Int) < (S.size : Int))) = false := decide_eq_false (by omega)
        have hD := NumI.done (l := S.data.toList) (a := a) (by rw [hl]; exact hI)
        have hR := HR.out
        rw [hD] at hR
        subst hR
        go_wp2_with fail
        go_ret2
        exact ⟨rfl, Below.refl _ _⟩
end Go.Proofs.YtdhdknjefjolpaaDoor
end
section
/-
  gannetref33: Number.
-/
namespace Go.Proofs.YtdhdknjefjolpaaDoor
set_option linter.unusedSimpArgs false
set_option linter.unusedVariables false
set_option maxRecDepth 10000
open Go.RowKit Go.Shelf Pl
theorem numV_nil {l : List UInt8} (h : l.length = 0) : numV l = (0, 4) := by unfold numV; rw [if_pos h]
theorem numV_long {l : List UInt8} (h : 18 < l.length) : numV l = (0, 2) := by unfold numV; rw [if_neg (by omega), if_pos h]
theorem numV_bad {l : List UInt8} (h0 : l.length ≠ 0) (h18 : ¬ 18 < l.length) (h : numF l 0 = none) : numV l = (0, 3) := by
  unfold numV
  rw [if_neg h0, if_neg h18, h]
  split <;> rfl
theorem numV_lead {l : List UInt8} (h18 : ¬ 18 < l.length) (h1 : 1 < l.length) (h : l[0]? = some 48) : numV l = (0, 3) := by
  unfold numV
  rw [if_neg (by omega), if_neg h18, if_pos ⟨h1, h⟩]
theorem numV_good {l : List UInt8} (h0 : l.length ≠ 0) (h18 : ¬ 18 < l.length) (hA : ¬ (1 < l.length ∧ l[0]? = some 48)) {a : Nat} (h : numF l 0 = some a) : numV l = (a, 0) := by
  unfold numV
  rw [if_neg h0, if_neg h18, if_neg hA, h]
set_option maxHeartbeats 4000000 in
theorem rnum_calls (S : ByteArray) (w : World) :
    Calls Tryd.prog 19 #[.string S] w fun e w' => e = .returned (.tuple #[.int .i64 ((numV S.data.toList).1 : Int), .int .i64 ((numV S.data.toList).2 : Int)]) ∧ Below w.heap.size w w' := by
  have hl := ba_len S
  obtain ⟨R, hR⟩ : ∃ R, numV S.data.toList = R := ⟨_, rfl⟩
  rw [hR]
  by_cases h0 : S.size = 0
  · obtain rfl : (0, 4) = R := (numV_nil (by omega)).symm.trans hR
    obtain rfl := ba_nil h0
    go_enter Tryd.func19, Tryd.ntmps19
    go_wp2_with fail
    go_ret2
    exact ⟨rfl, Below.refl _ _⟩
  have hne := ba_ne h0
  by_cases h18 : 18 < S.size
  · obtain rfl : (0, 2) = R := (numV_long (by omega)).symm.trans hR
    have i1 : (18 : Int) < (S.size : Int) := by omega
    go_enter Tryd.func19, Tryd.ntmps19
    go_wp2_with fail
    go_ret2
    exact ⟨rfl, Below.refl _ _⟩
  have i18 : (decide ((18 : Int) < (S.size : Int))) = false := decide_eq_false (by omega)
  have j18 : (decide (18 < S.size)) = false := decide_eq_false h18
  obtain ⟨c0, hc0⟩ : ∃ c, S.data.toList[0]? = some c := ⟨_, List.getElem?_eq_getElem (by omega)⟩
  have e0 := ba_at hc0
  have HBad : Hid (numF S.data.toList 0 = none → R = (0, 3)) := fun h => hR.symm.trans (numV_bad (by omega) (by omega) h)
  have HBad2 : Hid (1 < S.size ∧ c0 = 48 → R = (0, 3)) := fun h => hR.symm.trans (numV_lead (by omega) (by omega) (by rw [hc0, h.2]))
  have HGood : Hid (¬ (1 < S.size ∧ c0 = 48) → ∀ a, numF S.data.toList 0 = some a → R = (a, 0)) := fun h a ha =>
    hR.symm.trans (numV_good (by omega) (by omega) (fun g => h ⟨by omega, by rw [hc0] at g; exact Option.some.inj g.2⟩) ha)
  clear hR
  go_enter Tryd.func19, Tryd.ntmps19
  go_wp2_with fail
  go_loopw [4, 5] (fun v4 v24 wr => ∃ k a : Nat, k ≤ S.size ∧ v24 = .int .i64 (k : Int) ∧ v4 = .int .i64 (a : Int) ∧ NumI S.data.toList k a ∧ w = wr) (fun _ v24 _ => S.size - (intOf v24).toNat)
  case atStart => exact ⟨0, 0, by omega, rfl, rfl, ⟨rfl, by decide⟩, rfl⟩
  case round =>
    obtain ⟨k, a, hk, rfl, rfl, hI, rfl⟩ := hrel
    rcases Nat.lt_or_ge k S.size with hlt | hge
    · obtain ⟨c, hc⟩ : ∃ c, S.data.toList[k]? = some c := ⟨_, List.getElem?_eq_getElem (by omega)⟩
      have ek := ba_at hc
      have k1 : (k : Int) < (S.size : Int) := by omega
      have ha : a < 100000000000000000 := Nat.lt_of_lt_of_le hI.2 (Nat.le_trans (Nat.pow_le_pow_right (by omega) (show k ≤ 17 by omega)) (by decide))
      have hb := UInt8.toNat_lt c
      by_cases hd : isD c = true
      · have hN := hI.next hc hd
        unfold isD at hd
        simp only [Bool.and_eq_true, decide_eq_true_eq] at hd
        obtain ⟨q, hq⟩ : ∃ q, c.toNat = q + 48 := ⟨c.toNat - 48, by omega⟩
        have d1 : (decide ((c.toNat : Int) < 48)) = false := decide_eq_false (by omega)
        have d2 : (decide ((57 : Int) < (c.toNat : Int))) = false := decide_eq_false (by omega)
        have d3 : (decide (c.toNat < 48)) = false := decide_eq_false (by omega)
        have d4 : (decide (57 < c.toNat)) = false := decide_eq_false (by omega)
        have d5 : (c.toNat : Int) - 48 = (q : Int) := by omega
        have hq9 : q ≤ 9 := by omega
        rw [show c.toNat - 48 = q by omega] at hN
        clear hd hq hI hne
        go_wp2_with fail
        go_roundw
        case rel => exact ⟨k + 1, 10 * a + q, by omega, by go_num, by go_num, hN, by first | rfl | trivial⟩
        case measure => simp [intOf]; omega
      · have hB := hI.bad hc (by simpa using hd)
        unfold isD at hd
        simp only [Bool.and_eq_true, decide_eq_true_eq] at hd
        have hR := HBad.out hB
        subst hR
        rcases Nat.lt_or_ge c.toNat 48 with g1 | g1
        · have d1 : (c.toNat : Int) < 48 := by omega
          clear hd hI hne
          go_wp2_with fail
          go_ret2
          exact ⟨rfl, Below.refl _ _⟩
        · have d1 : (decide ((c.toNat : Int) < 48)) = false := decide_eq_false (by omega)
          have d3 : (decide (c.toNat < 48)) = false := decide_eq_false (by omega)
          have d2 : (57 : Int) < (c.toNat : Int) := by omega
          clear hd hI hne
          go_wp2_with fail
          go_ret2
          exact ⟨rfl, Below.refl _ _⟩
    · obtain rfl : k = S.size := by omega
      have k2 : (decide ((S.size : Int) < (S.size : Int))) = false := decide_eq_false (by omega)
      have hD := NumI.done (l := S.data.toList) (a := a) (by rw [hl]; exact hI)
      by_cases hA : 1 < S.size ∧ c0 = 48
      · have hR := HBad2.out hA
        subst hR
        have i1 : (1 : Int) < (S.size : Int) := by omega
        have i2 : ((c0.toNat : Int) == 48) = true := by rw [hA.2]; rfl
        clear hA hne
        go_wp2_with fail
        go_ret2
        exact ⟨rfl, Below.refl _ _⟩
      · have hR := HGood.out hA a hD
        subst hR
        have hA2 : (1 < S.size ∧ ((c0.toNat : Int) == 48) = false) ∨ ¬ 1 < S.size := by
          by_cases h : 1 < S.size
          · exact Or.inl ⟨h, u8_ne fun e => hA ⟨h, e⟩⟩
          · exact Or.inr h
        clear hA hne
        rcases hA2 with ⟨g1, g2⟩ | g1
        · have i1 : (1 : Int) < (S.size : Int) := by omega
          go_wp2_with fail
          go_ret2
          exact ⟨rfl, Below.refl _ _⟩
        · have i1 : (decide ((1 : Int) < (S.size : Int))) = false := decide_eq_false (by omega)
          have i2 : (decide (1 < S.size)) = false := decide_eq_false g1
          go_wp2_with fail
          go_ret2
          exact ⟨rfl, Below.refl _ _⟩
end Go.Proofs.YtdhdknjefjolpaaDoor
end
section
/-
  script: Line.
-/
namespace Go.Proofs.YtdhdknjefjolpaaDoor
set_option linter.unusedSimpArgs false
set_option linter.unusedVariables false
set_option maxRecDepth 10000
open Go.RowKit Go.Shelf Pl
def vS (x : List UInt8) : Value := .string ⟨x.toArray⟩
def str (l : List UInt8) : ByteArray := ⟨l.toArray⟩
theorem infoStr : (Tryd.prog.info? 9).map (fun i => (i.zero, i.size, i.bytes)) = some (some (.string ByteArray.empty), 1, 16) := by kernel_rfl
theorem own1_row {w : World} {base n : Nat} {e : TypeId} {v : Value} {xs : List Value} (h : w.ownsRow base e 1 v n xs) (hn : 0 < n) :
    ∃ (g cap : Nat) (cur : Array Value), v = .slice (some ⟨g, 0, none⟩) n cap ∧ base ≤ g ∧ Blk w g e cur ∧ n ≤ cap ∧ ∀ (j : Nat) (u : Value), xs[j]? = some u → cur[j]? = some u := by
  rcases h.2 with ⟨_, h0⟩ | ⟨g, cap, cur, rfl, hb, hh, hc, _, _, ht⟩
  · omega
  · refine ⟨g, cap, cur, rfl, hb, hh, hc, fun j u hj => ?_⟩
    have hl : j < xs.length := (List.getElem?_eq_some_iff.1 hj).1
    rw [← ht, List.getElem?_take] at hj
    rw [h.1] at hl
    rw [if_pos (by omega)] at hj
    simpa using hj
theorem flt_snoc (L : List (List UInt8)) (i : Nat) (x : List UInt8) (h : L[i]? = some x) : (L.take (i + 1)).filter (fun x => !x.isEmpty) = (L.take i).filter (fun x => !x.isEmpty) ++ (if x.isEmpty then [] else [x]) := by
  rw [List.take_add_one, h, List.filter_append]
  cases x <;> rfl
theorem index_hit1 (x r : List UInt8) (c : UInt8) (h : c ∉ x) : Lib.index (x ++ c :: r) [c] = (x.length : Int) := by
  induction x with
  | nil => simp [Lib.index, List.isPrefixOf]
  | cons b l ih =>
    have hb : c ≠ b := fun e => h (by simp [e])
    have ih := ih (fun e => h (by simp [e]))
    rw [List.cons_append, Lib.index, ih]
    have hp : ([c] : List UInt8).isPrefixOf (b :: (l ++ c :: r)) = false := by simp [List.isPrefixOf, hb]
    rw [hp]
    have : ((l.length : Int) == -1) = false := by rw [beq_eq_false_iff_ne]; omega
    simp [this]
theorem index_miss1 (x : List UInt8) (c : UInt8) (h : c ∉ x) : Lib.index x [c] = -1 := by
  induction x with
  | nil => simp [Lib.index]
  | cons b l ih =>
    have hb : c ≠ b := fun e => h (by simp [e])
    have ih := ih (fun e => h (by simp [e]))
    rw [Lib.index, ih]
    have hp : ([c] : List UInt8).isPrefixOf (b :: l) = false := by simp [List.isPrefixOf, hb]
    rw [hp]
    rfl
theorem split_hit1 (x r : List UInt8) (c : UInt8) (h : c ∉ x) : Lib.split (x ++ c :: r) [c] = x :: Lib.split r [c] := by
  have hi := index_hit1 x r c h
  unfold Lib.split
  have hd : (x ++ c :: r).drop (x.length + [c].length) = r := by
    rw [show x.length + [c].length = x.length + 1 from rfl, ← List.drop_drop]
    simp
  rw [Lib.count_hit (by simp) hi, hd, Nat.add_comm 1, Lib.splitK, hi, if_neg (by simp)]
  simp only [Int.toNat_natCast, Nat.add_zero]
  rw [hd]
  simp
theorem split_miss1 (x : List UInt8) (c : UInt8) (h : c ∉ x) : Lib.split x [c] = [x] := by
  unfold Lib.split
  rw [Lib.count_miss (index_miss1 x c h)]
  rfl
theorem str_toList (l : List UInt8) : (str l).toList = l := by rw [ByteArray.toList_eq]; simp [str]
theorem strn (l : List UInt8) : (str l).size = l.length := by simp [str, ByteArray.size]
/-- A row of strings. -/
def srow (P : List (List UInt8)) : Array Value := (P.map fun l => Value.string (str l)).toArray
theorem srow_get (P : List (List UInt8)) (j : Nat) (x : List UInt8) (h : P[j]? = some x) : (srow P)[j]? = some (.string (str x)) := by simp [srow, h]
theorem split_parts (l : List UInt8) (c : UInt8) : (Lib.splitB (str [c]) 0 (Lib.countB (str l) (str [c])) (str l)).map Value.string = (Lib.split l [c]).map fun x => Value.string (str x) := by
  have h := Lib.splitB_data (str [c]) 0 (Lib.countB (str l) (str [c])) (str l)
  have e : Lib.splitK (str [c]).data.toList 0 (Lib.countB (str l) (str [c])) (str l).data.toList = Lib.split l [c] := rfl
  rw [e] at h
  rw [← h, List.map_map]
  rfl
theorem split_count (l : List UInt8) (c : UInt8) : Lib.countB (str l) (str [c]) + 1 = (Lib.split l [c]).length := by
  have h := Lib.splitB_data (str [c]) 0 (Lib.countB (str l) (str [c])) (str l)
  have e : Lib.splitK (str [c]).data.toList 0 (Lib.countB (str l) (str [c])) (str l).data.toList = Lib.split l [c] := rfl
  rw [e] at h
  rw [← h, List.length_map, Lib.splitB_all (str [c]) (by simp [str, ByteArray.size]) 0 _ _ rfl]
theorem stSplit_calls (l : List UInt8) (c : UInt8) (M : Int) (w : World) (hl : l.length ≤ 2000000) (hM : w.cell? ⟨0, 0, none⟩ = some (.int .i64 M)) :
    Calls Tryd.prog 51 #[.string (str l), .string (str [c])] w fun e w' => e = .returned (.slice (some ⟨w.heap.size, 0, none⟩) (Lib.split l [c]).length (Lib.split l [c]).length) ∧ w' = w.alloc (.cells (srow (Lib.split l [c])) 9) := by
  have h := Tryd.strings_Split (str l) (str [c]) M w (by rw [strn]; omega) hM (by rw [strn]; exact Nat.le_refl 1)
  rw [split_count, split_parts] at h
  exact h
theorem own_base {w : World} {B base n size : Nat} {e : TypeId} {v : Value} {xs : List Value} (h : w.ownsRow B e size v n xs) (hb : base ≤ B) : w.ownsRow base e size v n xs := by
  obtain ⟨hl, h⟩ := h
  rcases h with h | ⟨g, cap, cur, rfl, hb', r⟩
  · exact ⟨hl, Or.inl h⟩
  · exact ⟨hl, Or.inr ⟨g, cap, cur, rfl, Nat.le_trans hb hb', r⟩⟩
/-- A line's words. -/
def wdS (l : List UInt8) : List (List UInt8) := (Lib.split l [32]).filter fun x => !x.isEmpty
/-- Is a line no remark? -/
def lnW (l : List UInt8) : List (List UInt8) := match wdS l with
  | (c :: r) :: t => if c = 35 then [] else (c :: r) :: t
  | w => w
theorem lnW_nil {l : List UInt8} (h : wdS l = []) : lnW l = [] := by unfold lnW; rw [h]
theorem lnW_hash {l r : List UInt8} {t : List (List UInt8)} (h : wdS l = (35 :: r) :: t) : lnW l = [] := by unfold lnW; rw [h]; exact if_pos rfl
theorem lnW_ok {l r : List UInt8} {c : UInt8} {t : List (List UInt8)} (h : wdS l = (c :: r) :: t) (hc : c ≠ 35) : lnW l = (c :: r) :: t := by unfold lnW; rw [h]; exact if_neg hc
theorem wdS_ne {l x : List UInt8} (h : x ∈ wdS l) : x ≠ [] := by
  unfold wdS at h
  have := (List.mem_filter.1 h).2
  intro e
  subst e
  simp at this
set_option maxHeartbeats 4000000 in
theorem line_calls (l : List UInt8) (M : Int) (w : World) (hl : l.length ≤ 200001) (hM : w.cell? ⟨0, 0, none⟩ = some (.int .i64 M)) :
    Calls Tryd.prog 16 #[.string ⟨l.toArray⟩] w fun e w' => ∃ v, e = .returned v ∧ w'.ownsRow w.heap.size 9 1 v (lnW l).length ((lnW l).map vS) ∧ Below w.heap.size w w' := by
  obtain ⟨i0, hi, hz0, hz1, hz2⟩ := info_parts infoStr
  have hsp := stSplit_calls l 32 M w (by omega) hM
  have hspl : (Lib.split l [32]).length ≤ 200003 := by
    have h1 := split_count l 32
    have h2 : Lib.countB (str l) (str [32]) ≤ l.length + 1 := Lib.count_le l [32]
    omega
  have hnz : ∀ x, x ∈ wdS l → x ≠ [] := fun x h => wdS_ne h
  have hWP : wdS l = (Lib.split l [32]).filter fun x => !x.isEmpty := rfl
  obtain ⟨R, hR⟩ : ∃ R, lnW l = R := ⟨_, rfl⟩
  rw [hR]
  rw [hWP] at hnz
  generalize Lib.split l [32] = P at *
  obtain ⟨n, hn⟩ : ∃ n, P.length = n := ⟨_, rfl⟩
  rw [hn] at hsp hspl
  have hB0 : Blk (w.alloc (.cells (srow P) 9)) w.heap.size 9 (srow P) := Blk.new _ _ _
  have hb0 : Below w.heap.size w (w.alloc (.cells (srow P) 9)) := Bl.alloc (Below.refl _ _) _
  have hbs : w.heap.size ≤ (w.alloc (.cells (srow P) 9)).heap.size := hb0.size
  go_enter Tryd.func16, Tryd.ntmps16
  go_wp2_with fail
  refine hsp.mono ?_
  rintro e w1 ⟨rfl, rfl⟩
  clear hsp
  generalize w.alloc (.cells (srow P) 9) = w1 at *
  go_wp2_with fail
  go_loopw [3, 9] (fun v3 v9 wr => ∃ k : Nat, k ≤ n ∧ v9 = .int .i64 (k : Int) ∧ wr.ownsRow w1.heap.size 9 1 v3 ((P.take k).filter fun x => !x.isEmpty).length (((P.take k).filter fun x => !x.isEmpty).map vS) ∧ Below w1.heap.size w1 wr) (fun _ v9 _ => n - (intOf v9).toNat)
  case atStart => exact ⟨0, by omega, rfl, World.ownsRow_nil _ _ _ _, Below.refl _ _⟩
  case round =>
    obtain ⟨k, hk, rfl, hown, hb⟩ := hrel
    rcases Nat.lt_or_ge k n with hlt | hge
    · obtain ⟨x, hxk⟩ : ∃ x, P[k]? = some x := ⟨P[k], List.getElem?_eq_getElem (by omega)⟩
      have hBk := hB0.below hb hB0.lt
      have hc : wr.cell? ⟨w.heap.size, k, none⟩ = some (.string ⟨x.toArray⟩) := by
        rw [hBk.cell k]
        exact srow_get P k x hxk
      have hE := flt_snoc P k x hxk
      have hfk : ((P.take k).filter fun x => !x.isEmpty).length ≤ 200003 := Nat.le_trans (List.length_filter_le _ _) (by rw [List.length_take]; omega)
      generalize (P.take k).filter (fun x => !x.isEmpty) = F at *
      have k1 : (k : Int) < (n : Int) := by omega
      have hbase := hb.size
      clear hBk
      cases x with
      | nil =>
        rw [if_pos (show ([] : List UInt8).isEmpty = true from rfl), List.append_nil] at hE
        have hc : wr.cell? ⟨w.heap.size, k, none⟩ = some (.string ⟨#[]⟩) := hc
        go_wp2_with fail
        go_roundw
        case rel => exact ⟨k + 1, by omega, by go_num, by rw [hE]; exact hown, hb⟩
        case measure => simp [intOf]; omega
      | cons y r =>
        rw [if_neg (by simp)] at hE
        go_wp2_with (at_builtin; refine wpList_append_one rfl _ _ 45 rfl w1.heap.size 9 i0 _ 16 Tryd.underlying45 hi hz0 hz1 hz2 rfl _ _ _ rfl hown (.string ⟨(y :: r).toArray⟩) rfl rfl (by unfold maxLen; omega) (by omega) hbase ?_; intro gg cap w3 hown3 hkp)
        have hb3 := hb.trans hkp.1
        clear hown hb hkp
        go_roundw
        case rel => exact ⟨k + 1, by omega, by go_num, by rw [hE, List.length_append, List.map_append]; exact hown3, hb3⟩
        case measure => simp [intOf]; omega
    · obtain rfl : k = n := by omega
      have k2 : (decide ((k : Int) < (k : Int))) = false := decide_eq_false (by omega)
      rw [List.take_of_length_le (by omega)] at hown
      have hbf : Below w.heap.size w wr := hb0.trans (hb.mono hbs)
      generalize P.filter (fun x => !x.isEmpty) = F at *
      cases F with
      | nil =>
        obtain rfl : [] = R := (lnW_nil hWP).symm.trans hR
        rcases hown.2 with ⟨rfl, _⟩ | ⟨g, cap, cur, rfl, _⟩
        · go_wp2_with fail
          go_ret
          exact ⟨_, rfl, World.ownsRow_nil _ _ _ _, hbf⟩
        · go_wp2_with fail
          go_ret
          exact ⟨_, rfl, own_base hown hbs, hbf⟩
      | cons x t =>
        cases x with
        | nil => exact absurd rfl (hnz [] (by simp))
        | cons c r =>
          obtain ⟨g, cap, cur, rfl, hg, hBc, hcap, hcs⟩ := own1_row hown (by simp)
          have h0 := hcs 0 (vS (c :: r)) rfl
          have hc0 : wr.cell? ⟨g, 0, none⟩ = some (.string ⟨(c :: r).toArray⟩) := by
            rw [hBc.cell 0]
            exact h0
          have e0 : ∀ h, (⟨(c :: r).toArray⟩ : ByteArray)[0]'h = c := fun _ => rfl
          have i0 : (0 : Int) < ((t.length + 1 : Nat) : Int) := by omega
          by_cases h35 : c = 35
          · have i2 : ((c.toNat : Int) == 35) = true := by rw [h35]; rfl
            subst h35
            obtain rfl : [] = R := (lnW_hash hWP).symm.trans hR
            clear hnz hWP hR i2
            go_wp2_with fail
            go_ret
            exact ⟨_, rfl, World.ownsRow_nil _ _ _ _, hbf⟩
          · have i2 : ((c.toNat : Int) == 35) = false := u8_ne h35
            obtain rfl : (c :: r) :: t = R := (lnW_ok hWP h35).symm.trans hR
            clear hnz hWP hR h35
            go_wp2_with fail
            go_ret
            exact ⟨_, rfl, own_base hown hbs, hbf⟩
end Go.Proofs.YtdhdknjefjolpaaDoor
end
section
/-
  gannetref33: Words.
-/
namespace Go.Proofs.YtdhdknjefjolpaaDoor
set_option linter.unusedSimpArgs false
set_option linter.unusedVariables false
set_option maxRecDepth 10000
open Go.RowKit Go.Shelf Pl
theorem ext_list (l : List UInt8) (f k : Nat) : (⟨l.toArray⟩ : ByteArray).extract f k = ⟨((l.drop f).take (k - f)).toArray⟩ := by
  apply ByteArray.ext
  rw [ByteArray.data_extract]
  simp
theorem wdS_nil : wdS [] = [] := rfl
theorem wdS_hit (x r : List UInt8) (h : (32 : UInt8) ∉ x) : wdS (x ++ 32 :: r) = (if x.isEmpty then [] else [x]) ++ wdS r := by
  unfold wdS
  rw [split_hit1 x r 32 h]
  cases x <;> rfl
theorem wdS_miss (x : List UInt8) (h : (32 : UInt8) ∉ x) : wdS x = (if x.isEmpty then [] else [x]) := by
  unfold wdS
  rw [split_miss1 x 32 h]
  cases x <;> rfl
/-- No blank from f on up to k. -/
def NoB (l : List UInt8) (f k : Nat) : Prop := ∀ j, f ≤ j → j < k → l[j]? ≠ some 32
theorem NoB.seg {l : List UInt8} {f k : Nat} (h : NoB l f k) : (32 : UInt8) ∉ (l.drop f).take (k - f) := by
  intro hm
  obtain ⟨i, hi⟩ := List.mem_iff_getElem?.1 hm
  rw [List.getElem?_take] at hi
  split at hi
  · rw [List.getElem?_drop] at hi
    exact h (f + i) (by omega) (by omega) hi
  · cases hi
theorem seg_empty {l : List UInt8} {f k : Nat} (hf : f ≤ k) (hk : k ≤ l.length) : ((l.drop f).take (k - f)).isEmpty = decide (k = f) := by
  have : ((l.drop f).take (k - f)).length = k - f := by rw [List.length_take, List.length_drop]; omega
  generalize (l.drop f).take (k - f) = x at *
  cases x with
  | nil => simp only [List.length_nil] at this; simp; omega
  | cons a r => simp only [List.length_cons] at this; simp; omega
/-- Words found, and those behind. -/
def WdI (l : List UInt8) (F : List (List UInt8)) (f k : Nat) : Prop := F ++ wdS (l.drop f) = wdS l ∧ f ≤ k ∧ NoB l f k
theorem WdI.on {l : List UInt8} {F : List (List UInt8)} {f k : Nat} (h : WdI l F f k) (hk : l[k]? ≠ some 32) : WdI l F f (k + 1) := ⟨h.1, by have := h.2.1; omega, fun j h1 h2 => by
  rcases Nat.lt_or_ge j k with g | g
  · exact h.2.2 j h1 g
  · obtain rfl : j = k := by omega
    exact hk⟩
theorem WdI.step {l : List UInt8} {F : List (List UInt8)} {f k : Nat} (h : WdI l F f k) (hk : k ≤ l.length) (hb : k = l.length ∨ l[k]? = some 32) :
    WdI l (F ++ (if k = f then [] else [(l.drop f).take (k - f)])) (k + 1) (k + 1) := by
  obtain ⟨h1, h2, h3⟩ := h
  have hs := h3.seg
  have he := seg_empty h2 hk
  refine ⟨?_, Nat.le_refl _, fun j g1 g2 => absurd g1 (by omega)⟩
  have hd : wdS (l.drop f) = (if ((l.drop f).take (k - f)).isEmpty then [] else [(l.drop f).take (k - f)]) ++ wdS (l.drop (k + 1)) := by
    rcases hb with rfl | hb
    · rw [List.drop_of_length_le (by omega : l.length ≤ l.length + 1), wdS_nil, List.append_nil]
      have e : (l.drop f).take (l.length - f) = l.drop f := List.take_of_length_le (by rw [List.length_drop]; omega)
      rw [e] at hs ⊢
      exact wdS_miss _ hs
    · have e : l.drop f = (l.drop f).take (k - f) ++ 32 :: l.drop (k + 1) := by
        have h4 := (List.take_append_drop (k - f) (l.drop f)).symm
        rw [List.drop_drop, show f + (k - f) = k by omega, drop_at hb] at h4
        exact h4
      have h5 := wdS_hit _ (l.drop (k + 1)) hs
      rw [← e] at h5
      exact h5
  rw [← h1, hd, he, List.append_assoc]
  congr 2
  by_cases g : k = f
  · simp [g]
  · simp [g]
theorem WdI.done {l : List UInt8} {F : List (List UInt8)} {k : Nat} (h : WdI l F (l.length + 1) k) : F = wdS l := by
  have := h.1
  rw [List.drop_of_length_le (by omega), wdS_nil, List.append_nil] at this
  exact this
theorem WdI.len {l : List UInt8} {F : List (List UInt8)} {f k : Nat} (h : WdI l F f k) : F.length ≤ (wdS l).length := by
  rw [← h.1, List.length_append]
  omega
theorem wdS_len (l : List UInt8) : (wdS l).length ≤ l.length + 2 := by
  have h1 := split_count l 32
  have h2 : Lib.countB (str l) (str [32]) ≤ l.length + 1 := Lib.count_le l [32]
  exact Nat.le_trans (List.length_filter_le _ _) (by omega)
end Go.Proofs.YtdhdknjefjolpaaDoor
end
section
/-
  gannetref33: Words, walked.
-/
namespace Go.Proofs.YtdhdknjefjolpaaDoor
set_option linter.unusedSimpArgs false
set_option linter.unusedVariables false
set_option maxRecDepth 10000
open Go.RowKit Go.Shelf Pl
def Shu (p : Prop) : Prop := p
theorem Shu.out {p : Prop} (h : Shu p) : p := h
set_option maxHeartbeats 4000000 in
theorem words_calls (l : List UInt8) (w : World) (hl : l.length ≤ 200001) :
    Calls Tryd.prog 17 #[.string ⟨l.toArray⟩] w fun e w' => ∃ v, e = .returned v ∧ w'.ownsRow w.heap.size 9 1 v (lnW l).length ((lnW l).map vS) ∧ Below w.heap.size w w' := by
  obtain ⟨i0, hi, hz0, hz1, hz2⟩ := info_parts infoStr
  have hwl := wdS_len l
  obtain ⟨R, hR⟩ : ∃ R, lnW l = R := ⟨_, rfl⟩
  rw [hR]
  have hnz : ∀ x, x ∈ wdS l → x ≠ [] := fun x h => wdS_ne h
  have hX : Hid (∀ f k, (⟨l.toArray⟩ : ByteArray).extract f k = ⟨((l.drop f).take (k - f)).toArray⟩) := ext_list l
  have hSl : (⟨l.toArray⟩ : ByteArray).data.toList = l := rfl
  have hSn := ba_len ⟨l.toArray⟩
  rw [hSl] at hSn
  generalize (⟨l.toArray⟩ : ByteArray) = S at *
  obtain ⟨n, hn⟩ : ∃ n, l.length = n := ⟨_, rfl⟩
  rw [hn] at hl hwl hSn
  go_enter Tryd.func17, Tryd.ntmps17
  go_wp2_with fail
  go_loopw [3, 4, 5] (fun v3 v4 v5 wr => ∃ (k f : Nat) (F : List (List UInt8)), k ≤ n + 1 ∧ (k = n + 1 → f = n + 1) ∧ v5 = .int .i64 (k : Int) ∧ v4 = .int .i64 (f : Int) ∧ WdI l F f k ∧ wr.ownsRow w.heap.size 9 1 v3 F.length (F.map vS) ∧ Below w.heap.size w wr) (fun _ _ v5 _ => n + 2 - (intOf v5).toNat)
  case atStart => exact ⟨0, 0, [], by omega, fun h => by omega, rfl, rfl, ⟨rfl, Nat.le_refl _, fun j _ h => absurd h (by omega)⟩, World.ownsRow_nil _ _ _ _, Below.refl _ _⟩
  case round =>
    obtain ⟨k, f, F, hk, hkf, rfl, rfl, hI, hown, hb⟩ := hrel
    have hbase := hb.size
    have hSn2 : S.size = n := hSn.symm
    clear hSn
    rcases Nat.lt_trichotomy k n with hlt | rfl | hgt
    · obtain ⟨c, hc⟩ : ∃ c, l[k]? = some c := ⟨_, List.getElem?_eq_getElem (by omega)⟩
      have ek := ba_at (S := S) (k := k) (c := c) (by rw [hSl]; exact hc)
      have k1 : (k : Int) < (n : Int) := by omega
      have k2 : (k : Int) ≤ (n : Int) := by omega
      by_cases h32 : c = 32
      · have q1 : ((c.toNat : Int) != 32) = false := by rw [h32]; rfl
        have q2 : ((c.toNat : Int) == 32) = true := by rw [h32]; rfl
        have hst := hI.step (by omega) (Or.inr (by rw [hc, h32]))
        clear hkf h32 hc
        rcases Nat.lt_or_ge f k with g | g
        · have g1 : (f : Int) < (k : Int) := by omega
          have g2 : (f : Int) ≤ (k : Int) := by omega
          have g3 : (k : Int) ≤ (n : Int) := by omega
          rw [if_neg (by omega)] at hst
          have hXk := hX.out f k
          have hfl := Nat.le_trans hI.len hwl
          clear hI
          go_wp2_with (at_builtin; refine Shu.out ?_)
          unfold Shu
          refine wpList_append_one rfl _ _ 45 rfl w.heap.size 9 i0 _ 16 Tryd.underlying45 hi hz0 hz1 hz2 rfl _ F.length _ rfl hown (.string ⟨((l.drop f).take (k - f)).toArray⟩) rfl rfl (by unfold maxLen; omega) (by omega) hbase ?_
          intro gg cap w3 hown3 hkp
          have hb3 := hb.trans hkp.1
          skip
          clear hown hb hkp hXk
          go_wp2_with fail
          refine ⟨⟨k + 1, k + 1, _, by omega, fun _ => by omega, by go_num, by go_num, hst, by rw [List.length_append, List.map_append]; exact hown3, hb3⟩, ?_⟩
          simp [intOf] <;> omega
        · have g1 : (decide ((f : Int) < (k : Int))) = false := decide_eq_false (by omega)
          have g2 : (decide (f < k)) = false := decide_eq_false (by omega)
          rw [if_pos (by have := hI.2.1; omega), List.append_nil] at hst
          clear hI
          go_wp2_with fail
          refine ⟨⟨k + 1, k + 1, _, by omega, fun _ => by omega, by go_num, by go_num, hst, hown, hb⟩, ?_⟩
          simp [intOf] <;> omega
      · have q2 : ((c.toNat : Int) == 32) = false := u8_ne h32
        have q1 : ((c.toNat : Int) != 32) = true := by rw [bne, q2]; rfl
        have hst := hI.on (by rw [hc]; exact fun e => h32 (Option.some.inj e))
        clear hkf h32 hc hI
        go_wp2_with fail
        refine ⟨⟨k + 1, f, F, by omega, fun h => by omega, by go_num, rfl, hst, hown, hb⟩, ?_⟩
        simp [intOf] <;> omega
    · have k1 : (decide ((k : Int) < (k : Int))) = false := decide_eq_false (by omega)
      have k2 : (k : Int) ≤ (k : Int) := by omega
      have hst := hI.step (by omega) (Or.inl hn.symm)
      clear hkf
      rcases Nat.lt_or_ge f k with g | g
      · have g1 : (f : Int) < (k : Int) := by omega
        have g2 : (f : Int) ≤ (k : Int) := by omega
        have g3 : (k : Int) ≤ (k : Int) := by omega
        rw [if_neg (by omega)] at hst
        have hXk := hX.out f k
        have hfl := Nat.le_trans hI.len hwl
        clear hI
        go_wp2_with (at_builtin; refine Shu.out ?_)
        unfold Shu
        refine wpList_append_one rfl _ _ 45 rfl w.heap.size 9 i0 _ 16 Tryd.underlying45 hi hz0 hz1 hz2 rfl _ F.length _ rfl hown (.string ⟨((l.drop f).take (k - f)).toArray⟩) rfl rfl (by unfold maxLen; omega) (by omega) hbase ?_
        intro gg cap w3 hown3 hkp
        have hb3 := hb.trans hkp.1
        skip
        clear hown hb hkp hXk
        go_wp2_with fail
        refine ⟨⟨k + 1, k + 1, _, by omega, fun _ => by omega, by go_num, by go_num, hst, by rw [List.length_append, List.map_append]; exact hown3, hb3⟩, ?_⟩
        simp [intOf] <;> omega
      · have g1 : (decide ((f : Int) < (k : Int))) = false := decide_eq_false (by omega)
        have g2 : (decide (f < k)) = false := decide_eq_false (by omega)
        rw [if_pos (by have := hI.2.1; omega), List.append_nil] at hst
        clear hI
        go_wp2_with fail
        refine ⟨⟨k + 1, k + 1, _, by omega, fun _ => by omega, by go_num, by go_num, hst, hown, hb⟩, ?_⟩
        simp [intOf] <;> omega
    · obtain rfl : k = n + 1 := by omega
      obtain rfl := hkf rfl
      have hD := WdI.done (by rw [← hn] at hI; exact hI)
      have hWP : wdS l = F := hD.symm
      rw [hWP] at hnz
      have k2 : (decide (((n + 1 : Nat) : Int) ≤ (n : Int))) = false := decide_eq_false (by omega)
      have k3 : (decide (n + 1 ≤ n)) = false := decide_eq_false (by omega)
      have hbf := hb
      clear hI hD hwl
      cases F with
      | nil =>
        obtain rfl : [] = R := (lnW_nil hWP).symm.trans hR
        rcases hown.2 with ⟨rfl, _⟩ | ⟨g, cap, cur, rfl, _⟩
        · go_wp2_with fail
          go_ret
          exact ⟨_, rfl, World.ownsRow_nil _ _ _ _, hbf⟩
        · go_wp2_with fail
          go_ret
          exact ⟨_, rfl, hown, hbf⟩
      | cons x t =>
        cases x with
        | nil => exact absurd rfl (hnz [] (by simp))
        | cons c r =>
          obtain ⟨g, cap, cur, rfl, hg, hBc, hcap, hcs⟩ := own1_row hown (by simp)
          have h0 := hcs 0 (vS (c :: r)) rfl
          have hc0 : wr.cell? ⟨g, 0, none⟩ = some (.string ⟨(c :: r).toArray⟩) := by
            rw [hBc.cell 0]
            exact h0
          have e0 : ∀ h, (⟨(c :: r).toArray⟩ : ByteArray)[0]'h = c := fun _ => rfl
          have i0 : (0 : Int) < ((t.length + 1 : Nat) : Int) := by omega
          by_cases h35 : c = 35
          · have i2 : ((c.toNat : Int) == 35) = true := by rw [h35]; rfl
            subst h35
            obtain rfl : [] = R := (lnW_hash hWP).symm.trans hR
            clear hnz hWP hR i2
            go_wp2_with fail
            go_ret
            exact ⟨_, rfl, World.ownsRow_nil _ _ _ _, hbf⟩
          · have i2 : ((c.toNat : Int) == 35) = false := u8_ne h35
            obtain rfl : (c :: r) :: t = R := (lnW_ok hWP h35).symm.trans hR
            clear hnz hWP hR h35
            go_wp2_with fail
            go_ret
            exact ⟨_, rfl, hown, hbf⟩
end Go.Proofs.YtdhdknjefjolpaaDoor
end
section
/-
  cmp.Or of two; script.Check.
-/
namespace Go.Proofs.YtdhdknjefjolpaaDoor
set_option linter.unusedSimpArgs false
set_option linter.unusedVariables false
set_option maxRecDepth 10000
open Go.RowKit Go.Shelf Pl
theorem orr_calls (bk a b : Nat) (w : World) (hB : Blk w bk 32 #[.int .i64 (a : Int), .int .i64 (b : Int)]) :
    Calls Tryd.prog 24 #[.slice (some ⟨bk, 0, none⟩) 2 2] w fun e w' => e = .returned (.int .i64 ((if a = 0 then b else a : Nat) : Int)) ∧ w = w' := by
  have c0 : w.cell? ⟨bk, 0, none⟩ = some (.int .i64 (a : Int)) := hB.cell 0
  have c1 : w.cell? ⟨bk, 1, none⟩ = some (.int .i64 (b : Int)) := hB.cell 1
  obtain ⟨r, hr⟩ : ∃ r, (if a = 0 then b else a : Nat) = r := ⟨_, rfl⟩
  rw [hr]
  have H1 : Hid (a ≠ 0 → r = a) := fun h => hr.symm.trans (if_neg h)
  have H2 : Hid (a = 0 → r = b) := fun h => hr.symm.trans (if_pos h)
  clear hr hB
  go_enter Tryd.func24, Tryd.ntmps24
  go_wp2_with fail
  go_loopw [8] (fun v8 wr => ∃ k : Nat, k ≤ 2 ∧ v8 = .int .i64 (k : Int) ∧ (1 ≤ k → a = 0) ∧ (2 ≤ k → b = 0) ∧ w = wr) (fun v8 _ => 2 - (intOf v8).toNat)
  case atStart => exact ⟨0, by omega, rfl, fun h => by omega, fun h => by omega, rfl⟩
  case round =>
    obtain ⟨k, hk, rfl, ha, hb, rfl⟩ := hrel
    rcases (show k = 0 ∨ k = 1 ∨ k = 2 by omega) with rfl | rfl | rfl
    · clear ha hb
      by_cases h : a = 0
      · have hz : ((a : Int) != 0) = false := by rw [h]; rfl
        have HZ := hide h
        clear h
        go_wp2_with fail
        exact ⟨⟨1, by omega, rfl, fun _ => HZ.out, fun h => by omega, trivial⟩, by decide⟩
      · obtain rfl := H1.out h
        have hz : ((r : Int) != 0) = true := by rw [bne_iff_ne]; omega
        go_wp2_with fail
        go_ret
        exact ⟨rfl, rfl⟩
    · have HA := hide (ha (by omega))
      obtain rfl := H2.out HA.out
      clear hb ha H1 H2
      by_cases h : r = 0
      · have hz : ((r : Int) != 0) = false := by rw [h]; rfl
        have HZ := hide h
        clear h
        go_wp2_with fail
        exact ⟨⟨2, by omega, rfl, fun _ => HA.out, fun _ => HZ.out, trivial⟩, by decide⟩
      · have hz : ((r : Int) != 0) = true := by rw [bne_iff_ne]; omega
        go_wp2_with fail
        go_ret
        exact ⟨rfl, rfl⟩
    · have ha := ha (by omega)
      have hb := hb (by omega)
      have hr := H2.out ha
      rw [hb] at hr
      subst hr
      clear hb ha H1 H2
      go_wp2_with fail
      go_ret
      exact ⟨rfl, rfl⟩
end Go.Proofs.YtdhdknjefjolpaaDoor
end
