/-
  gannetlaw11: live, IrqKinds.
-/
import Derived.Test.YtichdknfakmjlaaIrq5
import Derived.Deep.RegionHeld3
namespace Go.Proofs.Ytichdknfakmjlaa
open Go.RowKit Pl

theorem chl1 : chL (chF false false true true true false 0) (kL 5) = 3 := by decide
theorem chl2 : chL (chF false false true true true false 4) (kL 5) = 4 := by decide
theorem chl3 : chL (chF false false false true true false 0) (kL 5) = 4 := by decide
theorem wl1 : wrD 2 4 0 = 4 := by decide
theorem wl2 : wrU 2 true = true := by decide
theorem sl1 : stB true true false = 6 := by decide
theorem sl2 : stB false false true = 1 := by decide
theorem gl1 : goesN 5 = 65526 := by decide
theorem kl1 : kBit 3 = 2 := by decide
theorem nl1 : nameA 2 = { data := #[110, 109, 105] } := by decide
def AL (w : World) (g : Nat) : Prop := Blk w g 32 #[.bool false, .bool false, .bool true, .bool true]
set_option maxRecDepth 100000 in
set_option maxHeartbeats 4000000 in
theorem live11_calls (w : World) : Calls Try.prog 6 #[] w fun e w' => e = .returned (.bool true) ∧ Below w.heap.size w w' := by
  go_enter Try.func6, Try.ntmps6
  go_wp2_with fail
  refine (iqNew_calls _).mono ?_
  rintro e w1 ⟨g, rfl, hI1, hg, hb1⟩
  go_wp2_with fail
  refine (iqOver_calls g 0 false _ hI1).mono ?_
  rintro e w2 ⟨⟨_, rfl⟩, hI2, ho2⟩
  have hb02 : Below w.heap.size w w2 := hb1.trans (ho2.below hb1.size (fun j e => by omega))
  have hgl := hI2.lt
  have hA3 : AL (w2.alloc (.cells #[.bool false, .bool false, .bool true, .bool true] 32)) w2.heap.size := Blk.new _ _ _
  have hI3 : IB (w2.alloc (.cells #[.bool false, .bool false, .bool true, .bool true] 32)) g 0 true := Blk.alloc hI2 _
  have hb03 : Below w.heap.size w (w2.alloc (.cells #[.bool false, .bool false, .bool true, .bool true] 32)) := hb02.alloc hb02.size _
  go_wp2_with fail
  generalize w2.alloc (.cells #[.bool false, .bool false, .bool true, .bool true] 32) = w3 at *
  generalize w2.heap.size = G at *
  clear hI2 ho2 hI1 hb1 hb02
  have a0 : w3.cell? ⟨G, 0, none⟩ = some (.bool false) := Blk.cell hA3 0
  have a1 : w3.cell? ⟨G, 1, none⟩ = some (.bool false) := Blk.cell hA3 1
  have a2 : w3.cell? ⟨G, 2, none⟩ = some (.bool true) := Blk.cell hA3 2
  have a3 : w3.cell? ⟨G, 3, none⟩ = some (.bool true) := Blk.cell hA3 3
  go_wp2_with fail
  refine Cl.m (iqChoose_calls (some ⟨g, 0, none⟩) 0 true false false true true false _ (by omega) (.inr ⟨g, rfl, hI3⟩)) ?_
  intro w4 hb4
  rw [chl1]
  have hA4 : AL w4 G := Blk.below hA3 hb4 hA3.lt
  have hI4 : IB w4 g 0 true := Blk.below hI3 hb4 hI3.lt
  have hb04 := hb03.trans (hb4.mono hb03.size)
  clear a0 a1 a2 a3 hA3 hI3 hb4 hb03
  go_wp2_with fail
  refine (iqWrite_calls g 0 4 true 2 _ (by omega) hI4).mono ?_
  rintro e w5 ⟨⟨_, rfl⟩, hI5, ho5⟩
  rw [wl1, wl2] at hI5
  have hA5 : AL w5 G := Blk.only hA4 ho5 (by omega)
  have hb05 := hb04.trans (ho5.below hb04.size (fun j e => by omega))
  clear hA4 hI4 ho5 hb04
  have a0 : w5.cell? ⟨G, 0, none⟩ = some (.bool false) := Blk.cell hA5 0
  have a1 : w5.cell? ⟨G, 1, none⟩ = some (.bool false) := Blk.cell hA5 1
  have a2 : w5.cell? ⟨G, 2, none⟩ = some (.bool true) := Blk.cell hA5 2
  have a3 : w5.cell? ⟨G, 3, none⟩ = some (.bool true) := Blk.cell hA5 3
  go_wp2_with fail
  refine Cl.m (iqChoose_calls (some ⟨g, 0, none⟩) 4 true false false true true false _ (by omega) (.inr ⟨g, rfl, hI5⟩)) ?_
  intro w6 hb6
  rw [chl2]
  have hA6 : AL w6 G := Blk.below hA5 hb6 hA5.lt
  have hI6 : IB w6 g 4 true := Blk.below hI5 hb6 hI5.lt
  have hb06 := hb05.trans (hb6.mono hb05.size)
  clear a0 a1 a2 a3 hA5 hI5 hb6 hb05
  have hG := iqGoes_calls 5 w6
  have hG : Calls Try.prog 16 #[.int .u8 5] w6 fun e w' => e = .returned (.tuple #[.int .u16 65526, .bool true]) ∧ w6 = w' := hG
  go_wp2_with fail
  refine Cl.p hG ?_
  go_wp2_with fail
  refine (nilWrite_calls 2 1 _).mono ?_
  rintro e wx ⟨⟨_, rfl⟩, rfl⟩
  go_wp2_with fail
  refine (nilOver_calls _).mono ?_
  rintro e wx ⟨⟨_, rfl⟩, rfl⟩
  (go_wp2_with fail; refine Cl.p (iqDisable_calls g 4 true _ hI6) ?_)
  (go_wp2_with fail; refine Cl.p (iqDue_calls g 4 true _ hI6) ?_)
  go_wp2_with fail
  refine Cl.m (iqStatus_calls (some ⟨g, 0, none⟩) 4 true true false _ (.inr ⟨g, rfl, hI6⟩)) ?_
  intro w7 hb7
  rw [sl1]
  have hA7 : AL w7 G := Blk.below hA6 hb7 hA6.lt
  have hb07 := hb06.trans (hb7.mono hb06.size)
  go_wp2_with fail
  refine Cl.m (iqName_calls 2 _ (by omega)) ?_
  intro w8 hb8
  rw [nl1]
  have hA8 : AL w8 G := Blk.below hA7 hb8 hA7.lt
  have hb08 := hb07.trans (hb8.mono hb07.size)
  clear hA7 hA6 hI6 hb7 hb06 hb8 hb07
  have a0 : w8.cell? ⟨G, 0, none⟩ = some (.bool false) := Blk.cell hA8 0
  have a1 : w8.cell? ⟨G, 1, none⟩ = some (.bool false) := Blk.cell hA8 1
  have a2 : w8.cell? ⟨G, 2, none⟩ = some (.bool true) := Blk.cell hA8 2
  have a3 : w8.cell? ⟨G, 3, none⟩ = some (.bool true) := Blk.cell hA8 3
  have hB : Calls Try.prog 14 #[.int .u8 3] w8 fun e w' => e = .returned (.int .i64 2) ∧ w8 = w' := iqBit_calls 3 w8
  (go_wp2_with fail; refine Cl.p hB ?_)
  go_wp2_with fail
  refine Cl.m (iqChoose_calls none 0 false false false true true false _ (by omega) (.inl ⟨rfl, rfl, rfl⟩)) ?_
  intro w9 hb9
  rw [chl3]
  have hb09 := hb08.trans (hb9.mono hb08.size)
  (go_wp2_with fail; refine Cl.p (nilClone_calls _) ?_)
  have hD := qvDisable_calls none 0 false w9 (.inl ⟨rfl, rfl, rfl⟩)
  have hU := qvDue_calls none 0 false w9 (.inl ⟨rfl, rfl, rfl⟩)
  (go_wp2_with fail; refine Cl.p hD ?_)
  (go_wp2_with fail; refine Cl.p hU ?_)
  go_wp2_with fail
  refine Cl.m (iqStatus_calls none 0 false false true _ (.inl ⟨rfl, rfl, rfl⟩)) ?_
  intro wa hba
  rw [sl2]
  have hb0a := hb09.trans (hba.mono hb09.size)
  go_wp2_with fail
  go_ret
  exact ⟨rfl, hb0a⟩
end Go.Proofs.Ytichdknfakmjlaa
