/-
  The texts Sb4, Mmu, Mmu2, Mmu3 of the proof of TopSums, as one file (they are merged by a program).
-/
import Derived.Test.YtplobngbjpgcgaaGreatDoorA16
import Derived.Test.YtplobngbjpgcgaaGreatDoorA6
import Derived.RangeFuncNested
import Derived.RangeFuncBound
import Derived.RangeFuncCalls
import Derived.RangeFuncLeaves
import Derived.Shelf.Abstract
import Derived.Shelf.RegionOpen
import Derived.WalkKit
import Derived.OwnWalkIn
import Derived.TacticsInMore
import Derived.LoopNIn
import Derived.LoopIn
import Derived.Test.YtplobngbjpgcgaaGreatDoorA2
import Derived.Test.YtplobngbjpgcgaaGreatDoorA8
section
/-
  Package bus: Write, Read.
-/
namespace Go.Proofs.YtplobngbjpgcgaaGreatDoor
set_option linter.unusedSimpArgs false
set_option linter.unusedVariables false
set_option maxRecDepth 10000
open Go.RowKit Pl
theorem infoAcc : (Tryz.prog.info? 234).map (fun i => (i.zero, i.size, i.bytes)) = some (some (.agg #[.int .i64 0, .int .u32 0, .int .u8 0, .bool false, .int .u8 0]), 5, 16) := by kernel_rfl
theorem adr_same (a : Nat) (h : a < 2097152) : adr (bnk a) (a % 8192) = a := by rw [adr_back, Nat.mod_eq_of_lt h]
set_option maxRecDepth 100000 in
set_option maxHeartbeats 8000000 in
theorem bsWrite_ram (D : DevA) (A : BusA) (base nr k h a : Nat) (now cyc left np v kind : Int) (F : Nat → Int) (V : Value) (w : World) (ha : a < 2097152) (hx : whr a = 1) (hn : nr < 100000) (hk : k < 1000) (l1 : 0 < left) (l2 : left ≤ 5000) (t1 : 0 ≤ np) (t2 : np ≤ now) (t3 : now ≤ 10000) (y1 : 0 ≤ cyc) (y2 : cyc ≤ 10000)
    (hB : BusW w D A base now cyc left np nr k h F V) :
    Calls Tryz.prog 128 #[.pointer (some ⟨A.b, 0, none⟩), .int .u32 (a : Int), .int .u8 v, .int .u8 kind] w fun e w' => e = .returned (.tuple #[]) ∧ (∃ V', BusW w' D A base (now + 12) (cyc + 1) (left - 1) now (nr + 1) (k + 1) h (updF F (a % 8192) v) V') ∧ Below D.l w w' ∧ KeepX D base w w' := by
  obtain ⟨i0, hi, hz0, hz1, hz2⟩ := info_parts infoAcc
  have hbg := bsBegin_calls D A base nr k h a now cyc left np F V false w (by omega) (by rw [hx]; rfl) l1 l2 t1 t2 t3 y1 y2 hB
  have hbk := fun W => phBank_calls a W (by omega)
  have hof := fun W => phOff_calls a W (by omega)
  have had := fun W => phAddr_calls (bnk a) (a % 8192) W (bnk_lt a) (by omega)
  rw [adr_same a ha] at had
  have ho := hB.o
  have hl := hB.lp
  have hlw : D.l ≤ w.heap.size := by omega
  have hSb : ∀ k, D.l ≤ k ∧ k < base → Bz D base k := fun k h => h
  have hS : ∀ k, Bz D base k → D.l ≤ k ∧ k < base := fun k h => h
  clear hB
  go_enter Tryz.func128, Tryz.ntmps128
  go_wp2_with fail
  refine hbg.mono ?_
  clear hbg
  rintro e w3 ⟨rfl, hB3, ho3⟩
  rw [show now + ckL false = now + 12 from rfl, show cyc + 1 + ixB false = cyc + 1 from by show cyc + 1 + 0 = _; omega] at hB3
  have hL3 : Below D.l w w3 := ho3.below hlw (fun k e => e.1)
  have hK3 : KeepX D base w w3 := KeepX.only ho3
  have hpt := bsPut_ram D A base nr k h a (now + 12) (cyc + 1) (left - 1) now v F V w3 (by omega) hx hn hB3
  clear hB3 ho3 hx
  go_wp2_with fail
  refine Cl.p (hbk _) ?_
  go_wp2_with fail
  refine Cl.p (hof _) ?_
  go_wp2_with fail
  refine Cl.p (had _) ?_
  go_wp2_with fail
  refine hpt.mono ?_
  clear hpt hbk hof had
  rintro e w4 ⟨rfl, hB4, ho4⟩
  have hL4 := hL3.trans (ho4.below (by have := hL3.size; omega) (fun k e => e.1))
  have hK4 := hK3.trans (KeepX.only ho4)
  obtain ⟨rows, hT⟩ := hB4.T
  have hba : Below w4.heap.size w4 (w4.alloc (.cells #[.int .i64 now, .int .u32 (a : Int), .int .u8 kind, .bool true, .int .u8 v] 234)) := Bl.alloc (Below.refl _ _) _
  have hB5 := hB4.low hba
  have hT5 := own_low hT hba
  have c6 : w4.cell? ⟨A.b, 6, none⟩ = some V := Blk.cell hB4.B 6
  have c65 : (w4.alloc (.cells #[.int .i64 now, .int .u32 (a : Int), .int .u8 kind, .bool true, .int .u8 v] 234)).cell? ⟨A.b, 6, none⟩ = some V := Blk.cell hB5.B 6
  have hz4 := hL4.size
  have hblk := heap_alloc_new w4 (.cells #[.int .i64 now, .int .u32 (a : Int), .int .u8 kind, .bool true, .int .u8 v] 234)
  have ho5 := hB5.o
  go_wp2_with (at_builtin; refine wpList_append_own _ rfl _ _ 73 rfl base 234 i0 (.agg #[.int .i64 0, .int .u32 0, .int .u8 0, .bool false, .int .u8 0]) 5 16 Tryz.underlying73 hi hz0 hz1 hz2 rfl (by decide) V k rows rfl hT5 ⟨w4.heap.size, 0, none⟩ 1 1 [.int .i64 now, .int .u32 (a : Int), .int .u8 kind, .bool true, .int .u8 v] rfl rfl (World.news_of_block (cs := #[.int .i64 now, .int .u32 (a : Int), .int .u8 kind, .bool true, .int .u8 v]) (t := 234) (fr := (0, 0)) hblk) (by simp [Value.oneCell']) (by unfold maxLen; omega) (by omega) (by omega) ?_)
  intro v1 w6 hown1 hgrow1 _
  obtain ⟨ob, oc, rfl, hob, hobl⟩ := hown1.form (by omega)
  obtain ⟨hN, hNb⟩ := hB5.setT hT5 hgrow1 hown1
  have hB6 : Blk w6 A.b 75 (bsRow A D (left - 1) V) := Blk.below hB5.B hNb (by omega)
  have f6 : w6.frozen? ⟨A.b, 6, none⟩ = false := Blk.frozen hB6 6
  have d6 : w6.cell? ⟨A.b, 6, none⟩ = some V := Blk.cell hB6 6
  have hK : KeepX D base w (w6.setCell ⟨A.b, 6, none⟩ (.slice (some ⟨ob, 0, none⟩) (k + 1) oc)) := ((hK4.trans (KeepX.low hba)).trans (KeepX.grown hT5 hgrow1)).trans (KeepX.only (Only.setCell (S := Bz D base) (Only.refl _ _) ⟨A.b, 6, none⟩ (hSb A.b (by omega)) (.slice (some ⟨ob, 0, none⟩) (k + 1) oc)))
  have hLw : Below D.l w (w6.setCell ⟨A.b, 6, none⟩ (.slice (some ⟨ob, 0, none⟩) (k + 1) oc)) := ((hL4.trans (hba.mono (by omega))).trans (hNb.mono (by omega))).setCell (p := ⟨A.b, 6, none⟩) (by show D.l ≤ A.b; omega) _
  go_wp2_with fail
  go_end0
  exact ⟨rfl, ⟨_, hN⟩, hLw, hK⟩
set_option maxRecDepth 100000 in
set_option maxHeartbeats 8000000 in
theorem bsRead_ram (D : DevA) (A : BusA) (base nr k h a : Nat) (now cyc left np kind : Int) (F : Nat → Int) (V : Value) (w : World) (ha : a < 2097152) (hx : whr a = 1) (hk : k < 1000) (l1 : 0 < left) (l2 : left ≤ 5000) (t1 : 0 ≤ np) (t2 : np ≤ now) (t3 : now ≤ 10000) (y1 : 0 ≤ cyc) (y2 : cyc ≤ 10000)
    (hB : BusW w D A base now cyc left np nr k h F V) :
    Calls Tryz.prog 142 #[.pointer (some ⟨A.b, 0, none⟩), .int .u32 (a : Int), .int .u8 kind] w fun e w' => e = .returned (.int .u8 (F (a % 8192))) ∧ (∃ V', BusW w' D A base (now + 12) (cyc + 1) (left - 1) now nr (k + 1) h F V') ∧ Below D.l w w' ∧ KeepX D base w w' := by
  obtain ⟨i0, hi, hz0, hz1, hz2⟩ := info_parts infoAcc
  have hbg := bsBegin_calls D A base nr k h a now cyc left np F V false w (by omega) (by rw [hx]; rfl) l1 l2 t1 t2 t3 y1 y2 hB
  have hbk := fun W => phBank_calls a W (by omega)
  have hof := fun W => phOff_calls a W (by omega)
  have had := fun W => phAddr_calls (bnk a) (a % 8192) W (bnk_lt a) (by omega)
  rw [adr_same a ha] at had
  have ho := hB.o
  have hl := hB.lp
  have hlw : D.l ≤ w.heap.size := by omega
  have hSb : ∀ k, D.l ≤ k ∧ k < base → Bz D base k := fun k h => h
  clear hB
  go_enter Tryz.func142, Tryz.ntmps142
  go_wp2_with fail
  refine hbg.mono ?_
  clear hbg
  rintro e w3 ⟨rfl, hB3, ho3⟩
  rw [show now + ckL false = now + 12 from rfl, show cyc + 1 + ixB false = cyc + 1 from by show cyc + 1 + 0 = _; omega] at hB3
  have hL3 : Below D.l w w3 := ho3.below hlw (fun k e => e.1)
  have hK3 : KeepX D base w w3 := KeepX.only ho3
  have hld := bsLoad_ram D A base nr k h a (now + 12) (cyc + 1) (left - 1) now F V w3 (by omega) hx hB3
  obtain ⟨fv, hfv⟩ : ∃ x, F (a % 8192) = x := ⟨_, rfl⟩
  rw [hfv] at hld
  have Hfv := hide hfv
  clear ho3 hx hfv
  go_wp2_with fail
  refine Cl.p (hbk _) ?_
  go_wp2_with fail
  refine Cl.p (hof _) ?_
  go_wp2_with fail
  refine Cl.p (had _) ?_
  go_wp2_with fail
  refine Cl.m hld ?_
  clear hld hbk hof had
  intro w4 hb4
  have hB4 := hB3.low hb4
  have hL4 := hL3.trans (hb4.mono (by have := hL3.size; omega))
  have hK4 := hK3.trans (KeepX.low hb4)
  clear hB3
  obtain ⟨rows, hT⟩ := hB4.T
  have hba : Below w4.heap.size w4 (w4.alloc (.cells #[.int .i64 now, .int .u32 (a : Int), .int .u8 kind, .bool false, .int .u8 fv] 234)) := Bl.alloc (Below.refl _ _) _
  have hB5 := hB4.low hba
  have hT5 := own_low hT hba
  have c6 : w4.cell? ⟨A.b, 6, none⟩ = some V := Blk.cell hB4.B 6
  have c65 : (w4.alloc (.cells #[.int .i64 now, .int .u32 (a : Int), .int .u8 kind, .bool false, .int .u8 fv] 234)).cell? ⟨A.b, 6, none⟩ = some V := Blk.cell hB5.B 6
  have hz4 := hL4.size
  have hblk := heap_alloc_new w4 (.cells #[.int .i64 now, .int .u32 (a : Int), .int .u8 kind, .bool false, .int .u8 fv] 234)
  have ho5 := hB5.o
  go_wp2_with (at_builtin; refine wpList_append_own _ rfl _ _ 73 rfl base 234 i0 (.agg #[.int .i64 0, .int .u32 0, .int .u8 0, .bool false, .int .u8 0]) 5 16 Tryz.underlying73 hi hz0 hz1 hz2 rfl (by decide) V k rows rfl hT5 ⟨w4.heap.size, 0, none⟩ 1 1 [.int .i64 now, .int .u32 (a : Int), .int .u8 kind, .bool false, .int .u8 fv] rfl rfl (World.news_of_block (cs := #[.int .i64 now, .int .u32 (a : Int), .int .u8 kind, .bool false, .int .u8 fv]) (t := 234) (fr := (0, 0)) hblk) (by simp [Value.oneCell']) (by unfold maxLen; omega) (by omega) (by omega) ?_)
  intro v1 w6 hown1 hgrow1 _
  obtain ⟨ob, oc, rfl, hob, hobl⟩ := hown1.form (by omega)
  obtain ⟨hN, hNb⟩ := hB5.setT hT5 hgrow1 hown1
  have hB6 : Blk w6 A.b 75 (bsRow A D (left - 1) V) := Blk.below hB5.B hNb (by omega)
  have f6 : w6.frozen? ⟨A.b, 6, none⟩ = false := Blk.frozen hB6 6
  have d6 : w6.cell? ⟨A.b, 6, none⟩ = some V := Blk.cell hB6 6
  have hK : KeepX D base w (w6.setCell ⟨A.b, 6, none⟩ (.slice (some ⟨ob, 0, none⟩) (k + 1) oc)) := ((hK4.trans (KeepX.low hba)).trans (KeepX.grown hT5 hgrow1)).trans (KeepX.only (Only.setCell (S := Bz D base) (Only.refl _ _) ⟨A.b, 6, none⟩ (hSb A.b (by omega)) (.slice (some ⟨ob, 0, none⟩) (k + 1) oc)))
  have hLw : Below D.l w (w6.setCell ⟨A.b, 6, none⟩ (.slice (some ⟨ob, 0, none⟩) (k + 1) oc)) := ((hL4.trans (hba.mono (by omega))).trans (hNb.mono (by omega))).setCell (p := ⟨A.b, 6, none⟩) (by show D.l ≤ A.b; omega) _
  go_wp2_with fail
  go_ret
  exact ⟨by rw [Hfv.out]; rfl, ⟨_, hN⟩, hLw, hK⟩
end Go.Proofs.YtplobngbjpgcgaaGreatDoor
end
section
/-
  Package mmu: the pages of a mask, Set.
-/
namespace Go.Proofs.YtplobngbjpgcgaaGreatDoor
set_option linter.unusedSimpArgs false
set_option linter.unusedVariables false
set_option maxRecDepth 10000
open Go.RowKit Go.Shelf Pl
attribute [local go_sem] Oper.semAt_some

/-- The blocks from lo to hi lie as they lay. -/
def KpS (lo hi : Nat) (W W' : World) : Prop := W.heap.size ≤ W'.heap.size ∧ ∀ b, lo ≤ b → b < hi → W'.heap[b]? = W.heap[b]?
theorem KpS.t {lo hi : Nat} {A B C : World} (h : KpS lo hi A B) (k : KpS lo hi B C) : KpS lo hi A C := ⟨Nat.le_trans h.1 k.1, fun b h1 h2 => (k.2 b h1 h2).trans (h.2 b h1 h2)⟩
theorem KpS.b {lo hi : Nat} {w : World} (hn : hi ≤ w.heap.size) (W : World) (l : Nat) (o o' : Obj) (hl : w.heap.size ≤ l) (_ : W.heap[l]? = some o) (_ : o.isCells = false) (_ : o.isWalk = false) : KpS lo hi W (W.putObj l o') :=
  ⟨(grownBy_putObj' W l o').size, fun b _ h2 => World.putObj_heap_other (by omega)⟩
theorem KpS.setCell {lo hi : Nat} (W : World) (p : Addr) (hp : ¬ (lo ≤ p.block ∧ p.block < hi)) (v : Value) : KpS lo hi W (W.setCell p v) :=
  ⟨by simp [World.setCell], fun b h1 h2 => Below.heap_setCell _ _ _ _ (fun e => hp (e ▸ ⟨h1, h2⟩))⟩
def updn (A : Nat → Nat) (j v : Nat) : Nat → Nat := fun i => if i = j then v else A i
/-- The cells of eight pages, and what was moved last. -/
def mc (A : Nat → Nat) (l : Nat) : Array Value := #[.int .u8 (A 0 : Int), .int .u8 (A 1 : Int), .int .u8 (A 2 : Int), .int .u8 (A 3 : Int), .int .u8 (A 4 : Int), .int .u8 (A 5 : Int), .int .u8 (A 6 : Int), .int .u8 (A 7 : Int), .int .u8 (l : Int)]
def bk8 (A : Nat → Nat) : Array Value := #[.int .u8 (A 0 : Int), .int .u8 (A 1 : Int), .int .u8 (A 2 : Int), .int .u8 (A 3 : Int), .int .u8 (A 4 : Int), .int .u8 (A 5 : Int), .int .u8 (A 6 : Int), .int .u8 (A 7 : Int)]
theorem mc_get (A : Nat → Nat) (l n : Nat) (h : n < 8) : (mc A l)[n]? = some (.int .u8 (A n : Int)) := by
  match n, h with
  | 0, _ | 1, _ | 2, _ | 3, _ | 4, _ | 5, _ | 6, _ | 7, _ => rfl
theorem mc_set (A : Nat → Nat) (l n v : Nat) (h : n < 8) : (mc A l).setIfInBounds n (.int .u8 (v : Int)) = mc (updn A n v) l := by
  match n, h with
  | 0, _ | 1, _ | 2, _ | 3, _ | 4, _ | 5, _ | 6, _ | 7, _ => simp [mc, updn]
theorem mc_congr {A B : Nat → Nat} (l : Nat) (h : ∀ i, i < 8 → A i = B i) : mc A l = mc B l := by
  unfold mc
  rw [h 0 (by omega), h 1 (by omega), h 2 (by omega), h 3 (by omega), h 4 (by omega), h 5 (by omega), h 6 (by omega), h 7 (by omega)]
def MB (w : World) (g : Nat) (A : Nat → Nat) (l : Nat) : Prop := Blk w g 226 (mc A l)
theorem MB.get {w : World} {g : Nat} {A : Nat → Nat} {l : Nat} (h : MB w g A l) (n : Nat) (hn : n < 8) : w.cell? ⟨g, n, none⟩ = some (.int .u8 (A n : Int)) := (Blk.cell h n).trans (mc_get A l n hn)
theorem MB.set {w : World} {g : Nat} {A : Nat → Nat} {l : Nat} (h : MB w g A l) (n v : Nat) (hn : n < 8) : MB (w.setCell ⟨g, n, none⟩ (.int .u8 (v : Int))) g (updn A n v) l := by
  unfold MB
  rw [← mc_set A l n v hn]
  exact Blk.set_ h n _
theorem MB.congr {w : World} {g : Nat} {A B : Nat → Nat} {l : Nat} (h : MB w g A l) (e : ∀ i, i < 8 → A i = B i) : MB w g B l := by
  unfold MB at *
  rw [← mc_congr l e]
  exact h

end Go.Proofs.YtplobngbjpgcgaaGreatDoor
end
section
/-
  Package mmu: Get, Reset, Last, Banks, Of, New, Clone, Phys, Zero, Stack, Port.
-/
namespace Go.Proofs.YtplobngbjpgcgaaGreatDoor
set_option linter.unusedSimpArgs false
set_option linter.unusedVariables false
set_option maxRecDepth 10000
open Go.RowKit Go.Shelf Pl
attribute [local go_sem] Oper.semAt_some

end Go.Proofs.YtplobngbjpgcgaaGreatDoor
end
section
/-
  Package mmu: Reset, Last, Banks, Of, New, Clone, Phys, Zero, Stack, Port; nil receivers.
-/
namespace Go.Proofs.YtplobngbjpgcgaaGreatDoor
set_option linter.unusedSimpArgs false
set_option linter.unusedVariables false
set_option maxRecDepth 10000
open Go.RowKit Pl

theorem mmOf_calls (l : Nat) (A : Nat → Nat) (w : World) :
    Calls Tryz.prog 124 #[.agg (bk8 A), .int .u8 (l : Int)] w fun e w' => ∃ g, e = .returned (.pointer (some ⟨g, 0, none⟩)) ∧ MB w' g A l ∧ w.heap.size ≤ g ∧ Below w.heap.size w w' := by
  unfold bk8
  go_enter Tryz.func124, Tryz.ntmps124
  go_wp2_with fail
  go_ret
  refine ⟨w.heap.size + 1, rfl, ?_, by omega, by (repeat (first | exact Below.refl _ _ | assumption | refine Below.drew ?_ | refine Bl.alloc ?_ _ | refine below_drewN ?_ _ | refine Bl.chain ?_ (by assumption) (Nat.le_refl _)))⟩
  unfold MB
  exact Blk.newAt (by simp)
theorem bk8_get (A : Nat → Nat) (n : Nat) (h : n < 8) : (bk8 A)[n]? = some (.int .u8 (A n : Int)) := by
  match n, h with
  | 0, _ | 1, _ | 2, _ | 3, _ | 4, _ | 5, _ | 6, _ | 7, _ => rfl
def zero8 (A : Nat → Nat) : Bool := (List.range 8).all fun i => (A i : Int) == 0
theorem zero8_yes {A : Nat → Nat} (h : zero8 A = true) : ∀ i, i < 8 → A i = 0 := fun i hi => by
  unfold zero8 at h
  rw [List.all_eq_true] at h
  have := h i (List.mem_range.2 hi)
  rw [beq_iff_eq] at this
  omega
theorem bk8_zero {A : Nat → Nat} (h : ∀ i, i < 8 → A i = 0) : bk8 A = #[.int .u8 0, .int .u8 0, .int .u8 0, .int .u8 0, .int .u8 0, .int .u8 0, .int .u8 0, .int .u8 0] := by
  unfold bk8
  rw [h 0 (by omega), h 1 (by omega), h 2 (by omega), h 3 (by omega), h 4 (by omega), h 5 (by omega), h 6 (by omega), h 7 (by omega)]
  rfl
set_option maxHeartbeats 4000000 in
theorem mmBanks_calls (g l : Nat) (A : Nat → Nat) (w : World) (hM : MB w g A l) :
    Calls Tryz.prog 130 #[.pointer (some ⟨g, 0, none⟩)] w fun e w' => e = .returned (.agg (bk8 A)) ∧ Below w.heap.size w w' := by
  have hg := hM.lt
  have c := fun (W : World) (hW : MB W g A l) (n : Nat) (hn : n < 8) => MB.get hW n hn
  have heq : ∀ W, (binOp .eql 30 (.agg (bk8 A)) (.agg #[.int .u8 0, .int .u8 0, .int .u8 0, .int .u8 0, .int .u8 0, .int .u8 0, .int .u8 0, .int .u8 0])).run Tryz.prog W = .ok (.bool (zero8 A)) W := fun W =>
    run_eql_ints 30 5 8 .u8 Tryz.underlying30 Tryz.underlying5 (fun _ => by kernel_rfl) (fun i => (A i : Int)) (fun _ => 0) W
  have hM1 : MB (w.alloc (.cells #[.int .u8 0, .int .u8 0, .int .u8 0, .int .u8 0, .int .u8 0, .int .u8 0, .int .u8 0, .int .u8 0] 30)) g A l := Blk.alloc hM _
  have c0 := c _ hM1 0 (by omega)
  have c1 := c _ hM1 1 (by omega)
  have c2 := c _ hM1 2 (by omega)
  have c3 := c _ hM1 3 (by omega)
  have c4 := c _ hM1 4 (by omega)
  have c5 := c _ hM1 5 (by omega)
  have c6 := c _ hM1 6 (by omega)
  have c7 := c _ hM1 7 (by omega)
  clear c
  by_cases hz : zero8 A = true
  · have hb := bk8_zero (zero8_yes hz)
    rw [hz] at heq
    unfold bk8 at heq
    have HB := hide hb
    clear hb
    go_enter Tryz.func130, Tryz.ntmps130
    go_wp2_with fail
    refine bodyPost_ret (results_cell_row rfl _ _ w.heap.size 30 #[.int .u8 0, .int .u8 0, .int .u8 0, .int .u8 0, .int .u8 0, .int .u8 0, .int .u8 0, .int .u8 0] (0, 0) _ rfl (heap_alloc_new w _) Tryz.underlying30 rfl (by kernel_rfl)) rfl ⟨by rw [HB.out], (Below.refl _ _).alloc (Nat.le_refl _) _⟩
  · have hz : zero8 A = false := by simpa using hz
    rw [hz] at heq
    unfold bk8 at heq
    go_enter Tryz.func130, Tryz.ntmps130
    go_wp2_with fail
    refine bodyPost_ret (results_cell_row rfl _ _ w.heap.size 30 (bk8 A) (0, 0) _ rfl (heap_alloc_new w _) Tryz.underlying30 rfl (by kernel_rfl)) rfl ⟨rfl, (Below.refl _ _).alloc (Nat.le_refl _) _⟩
theorem mmZero_calls (b : Nat) (w : World) (hb : b < 256) : Calls Tryz.prog 163 #[.int .u8 (b : Int)] w fun e w' => e = .returned (.int .u16 ((8192 + b : Nat) : Int)) ∧ w = w' := by
  go_enter Tryz.func163, Tryz.ntmps163
  go_wp2_with fail
  go_ret
  refine ⟨ret_int ?_, rfl⟩
  rw [show (8192 : Int) = ((8192 : Nat) : Int) from rfl, u16_or_nat _ _ (by omega) (by omega)]
  congr 1
  exact (Nat.two_pow_add_eq_or_of_lt (i := 13) (b := b) (by show b < 2 ^ 13; omega) 1).symm
theorem mmPhys_calls (g l a : Nat) (A : Nat → Nat) (w : World) (ha : a < 65536) (hA : ∀ i, i < 8 → A i < 256) (hM : MB w g A l) :
    Calls Tryz.prog 141 #[.pointer (some ⟨g, 0, none⟩), .int .u16 (a : Int)] w fun e w' => e = .returned (.int .u32 (adr (A (a / 8192)) a : Nat)) ∧ Below w.heap.size w w' := by
  have hq : a / 8192 < 8 := by omega
  have hx : ∀ W, (Instr.index 30 (.agg (bk8 A)) (.int .u16 ((a : Int) / 8192))).run Tryz.prog W = .ok (.int .u8 (A (a / 8192) : Int)) W := fun W => by
    have h := run_index_row 30 5 8 Tryz.underlying30 (fun _ => by kernel_rfl) (fun _ => by kernel_rfl) (bk8 A) .u16 (a / 8192) hq (.int .u8 (A (a / 8192) : Int)) (bk8_get A _ hq) W
    rwa [show ((a / 8192 : Nat) : Int) = (a : Int) / 8192 from by omega] at h
  go_enter Tryz.func141, Tryz.ntmps141
  (go_wp2_with fail; refine Cl.m (mmBanks_calls g l A _ hM) ?_; intro w1 hb1)
  go_wp2_with fail
  refine Cl.p (phAddr_calls (A (a / 8192)) a _ (hA _ hq) ha) ?_
  go_wp2_with fail
  go_ret
  exact ⟨rfl, by (repeat (first | exact Below.refl _ _ | assumption | refine Below.drew ?_ | refine Bl.alloc ?_ _ | refine below_drewN ?_ _ | refine Bl.chain ?_ (by assumption) (Nat.le_refl _)))⟩
end Go.Proofs.YtplobngbjpgcgaaGreatDoor
end
