/-
  The texts Co3, Shelf of the proof of TopSums, as one file (they are merged by a program).
-/
import Derived.Test.YtplobngbjpgcgaaGreatDoorA21
import Derived.Test.YtplobngbjpgcgaaGreatDoorA23
import Derived.Shelf.Strings.Trim
import Derived.Shelf.Strings.Search3
import Derived.Shelf.LaysM
import Derived.Test.YtplobngbjpgcgaaGreatDoorProg
section
/-
  A core: next, idle, operands.
-/
namespace Go.Proofs.YtplobngbjpgcgaaGreatDoor
set_option linter.unusedSimpArgs false
set_option linter.unusedVariables false
set_option maxRecDepth 10000
open Go.RowKit Pl
section
variable {D : DevA} {A : BusA} {base c : Nat} {a p pc n nr : Nat} {M : Nat → Nat}
theorem Sys.only {S : Nat → Prop} {w w' : World} (x : Sys w D A base c a p pc n nr M) (ho : Only S w w') (hs : ∀ k, S k → base ≤ k ∧ k ≠ c ∧ ¬ AccB w k) : Sys w' D A base c a p pc n nr M := by
  obtain ⟨⟨np, V, h, h1, h2⟩, hC, hc⟩ := x
  obtain ⟨o1, o2, o3, o4, o5, o6, o7⟩ := h.o
  have hl := h.lp
  have q : ∀ k, k < base → ¬ S k := fun k hk e => by have := (hs k e).1; omega
  obtain ⟨rows, hT⟩ := h.T
  refine ⟨⟨np, V, ⟨Blk.only h.B ho (q _ (by omega)), Blk.only h.C ho (q _ (by omega)), h.R.only ho (q _ (by omega)) (q _ (by omega)), h.Dv.only ho (fun k e => Or.inr (by have := (hs k e).1; omega)), ⟨rows, own_keep hT (fun g hg => ho.block g (own_lt hT hg) (fun e => ?_))⟩, o1, o2, o3, o4, o5, o6, Nat.le_trans o7 ho.size⟩, h1, h2⟩, Blk.only hC ho (fun e => (hs c e).2.1 rfl), hc⟩
  obtain ⟨_, cur, hk⟩ := own_blk hT hg
  exact (hs g e).2.2 ⟨cur, _, hk⟩
theorem KeepC.only {S : Nat → Prop} {u v w : World} (x : KeepC D base c u v) (hl : D.l ≤ u.heap.size) (ho : Only S v w) (hs : ∀ k, S k → u.heap.size ≤ k) : KeepC D base c u w :=
  ⟨x.b.trans (ho.below (Nat.le_trans hl x.b.size) (fun k e => Nat.le_trans hl (hs k e))), fun k h1 h2 h3 h4 => (ho.block k (Nat.lt_of_lt_of_le h1 x.b.size) (fun e => by have := hs k e; omega)).trans (x.k k h1 h2 h3 h4)⟩
theorem KeepC.low2 {u v w : World} (x : KeepC D base c u v) (hl : D.l ≤ u.heap.size) (hb : Below v.heap.size v w) : KeepC D base c u w := x.only hl (S := fun _ => False) (Only.of hb) (fun _ e => e.elim)
theorem KeepC.own {w w' : World} (hK : KeepC D base c w w') {b m size : Nat} {e : TypeId} {v : Value} {xs : List Value} (h : w.ownsRow b e size v m xs) (he : e ≠ 234) (hb : base ≤ b) (hc : c < b) : w'.ownsRow b e size v m xs :=
  own_keep h (fun g hg => by
    obtain ⟨h1, cur, hk⟩ := own_blk h hg
    refine hK.k g (own_lt h hg) (fun hz => by have := hz.2; omega) ?_ (by omega)
    rintro ⟨xs, fr, hx⟩
    rw [hk] at hx
    cases hx
    exact he rfl)
theorem grown_only {w w' : World} {b m size : Nat} {e : TypeId} {v : Value} {xs : List Value} (h : w.ownsRow b e size v m xs) (hg : w.grownBy w' v.ownBlock) (hb : b ≤ w.heap.size) : Only (fun k => v.ownBlock = some k) w w' := by
  have hB : Below b w w' := (Below.refl b w).grown hg hb (fun k hk => (own_blk h hk).1)
  exact ⟨hB.os, hB.tape, hB.output, hB.size, fun k h1 h2 => hg.block k h1 (fun e => h2 e.symm)⟩
end
set_option maxHeartbeats 2000000 in
theorem coNext_calls (D : DevA) (A : BusA) (base c a p pc n nr kind : Nat) (M : Nat → Nat) (w : World) (hx : pc < 8000) (hn : n ≤ 800) (hS : Sys w D A base c a p pc n nr M) :
    Calls Tryz.prog 17 #[.pointer (some ⟨c, 0, none⟩), .int .u8 (kind : Int)] w fun e w' => e = .returned (.int .u8 (M pc : Int)) ∧ Sys w' D A base c a p (pc + 1) (n + 1) nr M ∧ KeepC D base c w w' := by
  have hrd := coRead_calls D A base c a p pc n nr pc kind M w (by omega) hn hS
  rw [Nat.mod_eq_of_lt (show pc < 8192 by omega)] at hrd
  have c5 : w.cell? ⟨c, 5, none⟩ = some (.int .u16 (pc : Int)) := Blk.cell hS.C 5
  have e1 : (pc : Int) + 1 ≤ 65535 := by omega
  clear hS hx
  go_enter Tryz.func17, Tryz.ntmps17
  go_wp2_with fail
  refine hrd.mono ?_
  clear hrd
  rintro e w1 ⟨rfl, hS1, hK1⟩
  have d5 : w1.cell? ⟨c, 5, none⟩ = some (.int .u16 (pc : Int)) := Blk.cell hS1.C 5
  have f5 : w1.frozen? ⟨c, 5, none⟩ = false := Blk.frozen hS1.C 5
  go_wp2_with fail
  go_ret
  exact ⟨rfl, hS1.set 5 _ rfl, hK1.set hS1.pl.1 5 _⟩
set_option maxHeartbeats 2000000 in
theorem coIdle_calls (D : DevA) (A : BusA) (base c a p pc n nr m : Nat) (M : Nat → Nat) (w : World) (hx : pc < 65536) (hn : n ≤ 700) (hm : m ≤ 10) (hS : Sys w D A base c a p pc n nr M) :
    Calls Tryz.prog 52 #[.pointer (some ⟨c, 0, none⟩), .int .i64 (m : Int)] w fun e w' => e = .returned (.tuple #[]) ∧ Sys w' D A base c a p pc (n + m) nr M ∧ KeepC D base c w w' := by
  have hrd := fun k W (hk : k ≤ 10) (h : Sys W D A base c a p pc (n + k) nr M) => coRead_calls D A base c a p pc (n + k) nr pc 2 M W hx (by omega) h
  have hK0 : KeepC D base c w w := KeepC.refl w
  go_enter Tryz.func52, Tryz.ntmps52
  go_wp2_with fail
  go_loopw [5] (fun i wr => ∃ j : Nat, j ≤ m ∧ i = .int .i64 (j : Int) ∧ Sys wr D A base c a p pc (n + j) nr M ∧ KeepC D base c w wr) (fun i _ => m - (intOf i).toNat)
  case atStart => exact ⟨0, by omega, rfl, hS, hK0⟩
  case round =>
    obtain ⟨j, hj, rfl, hSr, hKr⟩ := hrel
    clear hS hK0
    by_cases hjm : j < m
    · have hjm' : (j : Int) < (m : Int) := by omega
      have c5 : wr.cell? ⟨c, 5, none⟩ = some (.int .u16 (pc : Int)) := Blk.cell hSr.C 5
      have hr := hrd j wr (by omega) hSr
      clear hrd
      go_wp2_with fail
      refine hr.mono ?_
      clear hr
      rintro e w1 ⟨rfl, hS1, hK1⟩
      have hK2 := hKr.trans hK1
      clear c5 hSr hKr hK1
      go_wp2_with fail
      go_roundw
      case rel => exact ⟨j + 1, by omega, by go_num, hS1, hK2⟩
      case measure => simp [intOf]; omega
    · obtain rfl : j = m := by omega
      go_wp2_with fail
      go_end0
      exact ⟨rfl, hSr, hKr⟩
/-- A byte behind the first one, as a slice. -/
def Opd (w : World) (base c : Nat) (s : Value) (v : Nat) : Prop := ∃ g cap cur, s = .slice (some ⟨g, 0, none⟩) 1 cap ∧ Blk w g 5 cur ∧ cur[0]? = some (.int .u8 (v : Int)) ∧ base ≤ g ∧ g ≠ c
def opL (v j : Nat) : List Value := if j = 0 then [] else [.int .u8 (v : Int)]
set_option maxRecDepth 100000 in
set_option maxHeartbeats 4000000 in
theorem coOperands_calls (D : DevA) (A : BusA) (base c a p pc n nr : Nat) (M : Nat → Nat) (w : World) (hx : pc < 7999) (hn : n ≤ 700) (hS : Sys w D A base c a p pc n nr M) :
    Calls Tryz.prog 22 #[.pointer (some ⟨c, 0, none⟩), .int .i64 1] w fun e w' => ∃ s, e = .returned s ∧ Opd w' base c s (M pc) ∧ Sys w' D A base c a p (pc + 1) (n + 1) nr M ∧ KeepC D base c w w' := by
  obtain ⟨i0, hi, hz0, hz1, hz2⟩ := info_parts infoU8d
  have hnx := fun W (h : Sys W D A base c a p pc n nr M) => coNext_calls D A base c a p pc n nr 1 M W (by omega) (by omega) h
  have hpl := hS.pl
  have hcw : c < w.heap.size := hS.C.lt
  have hK0 : KeepC D base c w w := KeepC.refl w
  go_enter Tryz.func22, Tryz.ntmps22
  go_wp2_with fail
  go_loopw [5, 7] (fun v i wr => ∃ j : Nat, j ≤ 1 ∧ i = .int .i64 (j : Int) ∧ Sys wr D A base c a p (pc + j) (n + j) nr M ∧ KeepC D base c w wr ∧ wr.ownsRow w.heap.size 5 1 v j (opL (M pc) j)) (fun _ i _ => 1 - (intOf i).toNat)
  case atStart => exact ⟨0, by omega, rfl, hS, hK0, World.ownsRow_nil _ _ _ _⟩
  case round =>
    obtain ⟨j, hj, rfl, hSr, hKr, hor⟩ := hrel
    clear hS hK0
    by_cases hj0 : j = 0
    · subst hj0
      have hr := hnx wr hSr
      obtain ⟨v, hv⟩ : ∃ v, M pc = v := ⟨_, rfl⟩
      rw [hv] at hr hor
      have HV := hide hv
      clear hnx hv
      go_wp2_with fail
      refine hr.mono ?_
      clear hr
      rintro e w1 ⟨rfl, hS1, hK1⟩
      have hK2 := hKr.trans hK1
      have ho1 := hK1.own hor (by decide) hpl.2.2.1 hcw
      have hba : Below w1.heap.size w1 (w1.alloc (.cells #[.int .u8 (v : Int)] 5)) := Bl.alloc (Below.refl _ _) _
      have hS2 := hS1.low hba
      have hK3 := hK2.low2 hpl.2.1 hba
      have ho2 := own_low ho1 hba
      have hblk := heap_alloc_new w1 (.cells #[.int .u8 (v : Int)] 5)
      have hws := hK3.b.size
      clear hSr hKr hor hS1 hK1 hK2 ho1 hba
      go_wp2_with (at_builtin; refine wpList_append_own _ rfl _ _ 24 rfl w.heap.size 5 i0 (.int .u8 0) 1 1 Tryz.underlying24 hi hz0 hz1 hz2 rfl (by decide) _ 0 (opL v 0) rfl ho2 ⟨w1.heap.size, 0, none⟩ 1 1 [.int .u8 (v : Int)] rfl rfl (World.news_of_block (cs := #[.int .u8 (v : Int)]) (t := 5) (fr := (0, 0)) hblk) (by simp [Value.oneCell']) (by unfold maxLen; omega) (by omega) (by omega) ?_)
      intro v1 w6 hown1 hgrow1 _
      have hO := grown_only ho2 hgrow1 hws
      have hge : ∀ k, Value.ownBlock _ = some k → _ := fun k hk => own_blk ho2 hk
      have hS6 := hS2.only hO (fun k hk => by
        obtain ⟨h1, cur, hc⟩ := own_blk ho2 hk
        refine ⟨by omega, by omega, ?_⟩
        rintro ⟨xs, fr, hx⟩
        rw [hc] at hx
        cases hx)
      have hK6 := hK3.only hpl.2.1 hO (fun k hk => (own_blk ho2 hk).1)
      clear hge hO hK3 hS2 ho2 hgrow1 hblk
      go_wp2_with fail
      go_roundw
      case rel => exact ⟨1, by omega, by go_num, hS6, hK6, by rw [HV.out]; exact hown1⟩
      case measure => simp [intOf]
    · obtain rfl : j = 1 := by omega
      obtain ⟨g, cap, rfl, hg1, hg2⟩ := hor.form (by omega)
      obtain ⟨cur, hcur⟩ : ∃ cur, wr.heap[g]? = some (.cells cur 5 (0, 0)) ∧ cur[0]? = some (.int .u8 (M pc : Int)) := by
        rcases hor.2 with ⟨h, _⟩ | ⟨g', cap', cur, he, _, hh, _, _, _, h4⟩
        · cases h
        · cases he
          refine ⟨cur, hh, ?_⟩
          have h5 : (cur.toList.take 1)[0]? = some (.int .u8 (M pc : Int)) := by
            rw [show 1 = 1 * 1 from rfl, h4]; rfl
          simpa using h5
      clear hor
      go_wp2_with fail
      go_ret
      exact ⟨_, rfl, ⟨g, cap, cur, rfl, hcur.1, hcur.2, by omega, by omega⟩, hSr, hKr⟩
end Go.Proofs.YtplobngbjpgcgaaGreatDoor
end
section
/-
  DERIVED: THE SHELF's CONTRACTS AT THIS DUMP, IN PLAIN WORDS (tools/lay-plain.mjs out of 'ShelfScratch.lean', which tools/lay-shelf.mjs wrote): THE SAME DECLARATIONS UNDER THE SAME NAMES: 'import', 'namespace', 'open', 'def', 'theorem' AND NOTHING ELSE: no command of the shelf's: FOR A HAND-IN. Each laying: the table of numbers ('.._ren') and one theorem, a field a fact of the dump's own or the kernel's comparison; each contract: ONE APPLICATION.
-/
namespace Go.Proofs
open Go.Shelf
def Tryz.lays162_ren : Go.Shelf.Ren := ⟨fun | 162 => 84 | 232 => 143 | 227 => 144 | 234 => 145 | 236 => 146 | 228 => 177 | 271 => 178 | 151 => 179 | 120 => 194 | 197 => 195 | 152 => 196 | 260 => 215 | 137 => 216 | 119 => 217 | 224 => 149 | 225 => 148 | 217 => 147 | 266 => 180 | n => n, fun | 9 => 9 | 4 => 4 | 3 => 3 | 5 => 5 | 117 => 208 | 116 => 207 | 0 => 0 | 124 => 211 | 21 => 21 | 105 => 239 | 46 => 169 | 119 => 269 | 139 => 272 | 138 => 271 | n => n, fun | 3 => 1 | 4 => 2 | n => n⟩
theorem Tryz.lays162 : Go.Proofs.Lays.n162 Tryz.prog Tryz.lays162_ren := {
  mixed := by kernel_rfl
  f119 := Tryz.func217.trans (congrArg some (by kernel_rfl))
  f120 := Tryz.func194.trans (congrArg some (by kernel_rfl))
  f137 := Tryz.func216.trans (congrArg some (by kernel_rfl))
  f151 := Tryz.func179.trans (congrArg some (by kernel_rfl))
  f152 := Tryz.func196.trans (congrArg some (by kernel_rfl))
  f162 := Tryz.func84.trans (congrArg some (by kernel_rfl))
  f197 := Tryz.func195.trans (congrArg some (by kernel_rfl))
  f217 := Tryz.func147.trans (congrArg some (by kernel_rfl))
  f224 := Tryz.func149.trans (congrArg some (by kernel_rfl))
  f225 := Tryz.func148.trans (congrArg some (by kernel_rfl))
  f227 := Tryz.func144.trans (congrArg some (by kernel_rfl))
  f228 := Tryz.func177.trans (congrArg some (by kernel_rfl))
  f232 := Tryz.func143.trans (congrArg some (by kernel_rfl))
  f234 := Tryz.func145.trans (congrArg some (by kernel_rfl))
  f236 := Tryz.func146.trans (congrArg some (by kernel_rfl))
  f260 := Tryz.func215.trans (congrArg some (by kernel_rfl))
  f266 := Tryz.func180.trans (congrArg some (by kernel_rfl))
  f271 := Tryz.func178.trans (congrArg some (by kernel_rfl))
  t0 := Tryz.underlying0
  a0 := Tryz.isAgg0
  z0 := Tryz.sizeOf0
  v0 := Tryz.zeroValue0
  t3 := Tryz.underlying3
  a3 := Tryz.isAgg3
  z3 := Tryz.sizeOf3
  v3 := Tryz.zeroValue3
  t4 := Tryz.underlying4
  a4 := Tryz.isAgg4
  z4 := Tryz.sizeOf4
  v4 := Tryz.zeroValue4
  t5 := Tryz.underlying5
  a5 := Tryz.isAgg5
  z5 := Tryz.sizeOf5
  v5 := Tryz.zeroValue5
  t9 := Tryz.underlying9
  a9 := Tryz.isAgg9
  z9 := Tryz.sizeOf9
  v9 := Tryz.zeroValue9
  t21 := Tryz.underlying21
  a21 := Tryz.isAgg21
  z21 := Tryz.sizeOf21
  v21 := Tryz.zeroValue21
  t46 := Tryz.underlying169
  a46 := Tryz.isAgg169
  z46 := Tryz.sizeOf169
  v46 := Tryz.zeroValue169
  t105 := Tryz.underlying239
  a105 := Tryz.isAgg239
  z105 := Tryz.sizeOf239
  v105 := Tryz.zeroValue239
  t116 := Tryz.underlying207
  a116 := Tryz.isAgg207
  z116 := Tryz.sizeOf207
  t117 := Tryz.underlying208
  a117 := Tryz.isAgg208
  z117 := Tryz.sizeOf208
  v117 := Tryz.zeroValue208
  t119 := Tryz.underlying269
  a119 := Tryz.isAgg269
  z119 := Tryz.sizeOf269
  t124 := Tryz.underlying211
  a124 := Tryz.isAgg211
  z124 := Tryz.sizeOf211
  v124 := Tryz.zeroValue211
  t138 := Tryz.underlying271
  a138 := Tryz.isAgg271
  z138 := Tryz.sizeOf271
  v138 := Tryz.zeroValue271
  t139 := Tryz.underlying272
  a139 := Tryz.isAgg272
  z139 := Tryz.sizeOf272
  v139 := Tryz.zeroValue272
  g3 := by kernel_rfl
  g4 := by kernel_rfl }
open Go.RowKit in
/-- strings.TrimRight: "TrimRight returns a slice of the string s, with all trailing Unicode code points contained in cutset removed.": AT A cutset OF ONE ASCII BYTE. The world is as it was. (LAID: no walk: one application.) -/
theorem Tryz.strings_TrimRight_one (s : ByteArray) (c : UInt8) (hc : c.toNat < 128) (w : World) (hs : s.size ≤ 9223372036854775807) :
    Calls Tryz.prog 84 #[.string s, .string ⟨#[c]⟩] w fun e w' => e = .returned (.string ⟨(Lib.trimRightB s.data.toList c).toArray⟩) ∧ w' = w := Any.strings_TrimRight_one Tryz.lays162 s c hc w hs
def Tryz.lays143_ren : Go.Shelf.Ren := ⟨fun | 143 => 46 | 219 => 85 | 217 => 147 | 225 => 148 | 224 => 149 | 267 => 150 | 266 => 180 | 314 => 181 | n => n, fun | 9 => 9 | 3 => 3 | 4 => 4 | 5 => 5 | 46 => 169 | 146 => 242 | 51 => 41 | n => n, fun | 1 => 0 | n => n⟩
theorem Tryz.lays143 : Go.Proofs.Lays.n143 Tryz.prog Tryz.lays143_ren := {
  mixed := by kernel_rfl
  f143 := Tryz.func46.trans (congrArg some (by kernel_rfl))
  f217 := Tryz.func147.trans (congrArg some (by kernel_rfl))
  f219 := Tryz.func85.trans (congrArg some (by kernel_rfl))
  f224 := Tryz.func149.trans (congrArg some (by kernel_rfl))
  f225 := Tryz.func148.trans (congrArg some (by kernel_rfl))
  f266 := Tryz.func180.trans (congrArg some (by kernel_rfl))
  f267 := Tryz.func150.trans (congrArg some (by kernel_rfl))
  f314 := Tryz.func181.trans (congrArg some (by kernel_rfl))
  t3 := Tryz.underlying3
  a3 := Tryz.isAgg3
  z3 := Tryz.sizeOf3
  v3 := Tryz.zeroValue3
  t4 := Tryz.underlying4
  a4 := Tryz.isAgg4
  z4 := Tryz.sizeOf4
  v4 := Tryz.zeroValue4
  t5 := Tryz.underlying5
  a5 := Tryz.isAgg5
  z5 := Tryz.sizeOf5
  v5 := Tryz.zeroValue5
  t9 := Tryz.underlying9
  a9 := Tryz.isAgg9
  z9 := Tryz.sizeOf9
  v9 := Tryz.zeroValue9
  t46 := Tryz.underlying169
  a46 := Tryz.isAgg169
  z46 := Tryz.sizeOf169
  v46 := Tryz.zeroValue169
  t51 := Tryz.underlying41
  a51 := Tryz.isAgg41
  z51 := Tryz.sizeOf41
  v51 := Tryz.zeroValue41
  t146 := Tryz.underlying242
  a146 := Tryz.isAgg242
  z146 := Tryz.sizeOf242
  v146 := Tryz.zeroValue242
  g1 := by kernel_rfl }
open Go.RowKit Go.Lib in
/-- strings.Index: "Index returns the index of the first instance of substr in s, or -1 if substr is not present in s.": IT RETURNS 'Lib.index s substr'; the world is as it was. (LAID: no walk: one application.) -/
theorem Tryz.strings_Index (s sub : ByteArray) (m : Int) (w : World) (hs : s.size < 4294967281) (hm : w.cell? ⟨0, 0, none⟩ = some (.int .i64 m)) :
    Calls Tryz.prog 46 #[.string s, .string sub] w fun e w' => e = .returned (.int .i64 (Lib.index s.data.toList sub.data.toList)) ∧ w' = w := Any.strings_Index Tryz.lays143 s sub m w hs hm
end Go.Proofs
end
