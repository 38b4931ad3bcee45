/-
  The texts Sb3, Info of the proof of TopSums, as one file (they are merged by a program).
-/
import Derived.Test.YtplobngbjpgcgaaGreatDoorA15
import Derived.Test.YtplobngbjpgcgaaGreatDoorA2
import Derived.Test.YtplobngbjpgcgaaGreatDoorA6
import Derived.Lib.LazyBuf
section
/-
  Package bus: put, Peek, load.
-/
namespace Go.Proofs.YtplobngbjpgcgaaGreatDoor
set_option linter.unusedSimpArgs false
set_option linter.unusedVariables false
set_option maxRecDepth 10000
open Go.RowKit Pl
set_option maxRecDepth 100000 in
set_option maxHeartbeats 4000000 in
theorem bsPut_ram (D : DevA) (A : BusA) (base nr k h a : Nat) (now cyc left np v : Int) (F : Nat → Int) (V : Value) (w : World) (ha : a < 4294967296) (hx : whr a = 1) (hn : nr < 100000) (hB : BusW w D A base now cyc left np nr k h F V) :
    Calls Tryz.prog 172 #[.pointer (some ⟨A.b, 0, none⟩), .int .u32 (a : Int), .int .u8 v] w fun e w' => e = .returned (.tuple #[]) ∧ BusW w' D A base now cyc left np (nr + 1) k h (updF F (a % 8192) v) V ∧ Only (Bz D base) w w' := by
  have hwh := fun W => phWhere_calls a W ha
  rw [hx] at hwh
  have hof := fun W => phOff_calls a W ha
  have ho := hB.o
  have hl := hB.lp
  have hS : ∀ k, D.l ≤ k ∧ k < base → Bz D base k := fun k h => h
  go_enter Tryz.func172, Tryz.ntmps172
  go_wp2_with fail
  refine Cl.m (hwh _) ?_
  intro w1 hb1
  have hB1 := hB.low hb1
  have hO1 : Only (Bz D base) w w1 := Only.of hb1
  have c2 : w1.cell? ⟨A.b, 2, none⟩ = some (.pointer (some ⟨A.rm, 0, none⟩)) := Blk.cell hB1.B 2
  clear hwh hB hb1
  go_wp2_with fail
  refine wp_region_held_drew (S := fun W => W.cell? ⟨A.b, 2, none⟩ = some (.pointer (some ⟨A.rm, 0, none⟩))) (by kernel_rfl) (by first | exact c2.drew | exact c2 | exact Below.drew c2) (fun hS0 => ?_)
  have hB1_0 : BusW w1.drew D A base now cyc left np nr k h F V := by first | exact hB1.drew | exact hB1
  have hO1_0 : Only (Bz D base) w w1.drew := by first | exact hO1.drew | exact hO1
  clear c2 hB1 hO1
  change wpAnyH _ _ _ _ _ 8 #[false, false, false, false, false, false, false, false] _ _
  generalize w1.drew = v0 at *
  refine wpAnyH_take (i := 0) (v := ?_) rfl (by kernel_rfl) (by kernel_rfl) (by kernel_rfl) (fun _ _ _ h => h) (Or.inl ⟨by rfl, ?_⟩) hS0 ?_
  rotate_left
  · (intro w hSw; (try dsimp only at hSw); go_simp; try with_reducible rfl)
  simp only [List.getElem_toArray, List.getElem_cons_zero, List.getElem_cons_succ, Act.put, List.setIfInBounds_toArray, List.set_cons_zero, List.set_cons_succ]
  refine wpAnyH_take (i := 1) (v := ?_) rfl (by kernel_rfl) (by kernel_rfl) (by kernel_rfl) (fun _ _ _ h => h) (Or.inl ⟨by rfl, ?_⟩) hS0 ?_
  rotate_left
  · (intro w hSw; (try dsimp only at hSw); go_simp; try with_reducible rfl)
  simp only [List.getElem_toArray, List.getElem_cons_zero, List.getElem_cons_succ, Act.put, List.setIfInBounds_toArray, List.set_cons_zero, List.set_cons_succ]
  refine wpAnyH_take (i := 2) (v := ?_) rfl (by kernel_rfl) (by kernel_rfl) (by kernel_rfl) (fun _ _ _ h => h) (Or.inl ⟨by rfl, ?_⟩) hS0 ?_
  rotate_left
  · (intro w hSw; (try dsimp only at hSw); go_simp; try with_reducible rfl)
  simp only [List.getElem_toArray, List.getElem_cons_zero, List.getElem_cons_succ, Act.put, List.setIfInBounds_toArray, List.set_cons_zero, List.set_cons_succ]
  refine wpAnyH_take (i := 3) (v := ?_) rfl (by kernel_rfl) (by kernel_rfl) (by kernel_rfl) (fun _ _ _ h => h) (Or.inl ⟨by rfl, ?_⟩) hS0 ?_
  rotate_left
  · (intro w hSw; (try dsimp only at hSw); go_simp; try with_reducible rfl)
  simp only [List.getElem_toArray, List.getElem_cons_zero, List.getElem_cons_succ, Act.put, List.setIfInBounds_toArray, List.set_cons_zero, List.set_cons_succ]
  refine wpAnyH_take (i := 4) (v := ?_) rfl (by kernel_rfl) (by kernel_rfl) (by kernel_rfl) (fun _ _ _ h => h) (Or.inl ⟨by rfl, ?_⟩) hS0 ?_
  rotate_left
  · (intro w hSw; (try dsimp only at hSw); go_simp; try with_reducible rfl)
  simp only [List.getElem_toArray, List.getElem_cons_zero, List.getElem_cons_succ, Act.put, List.setIfInBounds_toArray, List.set_cons_zero, List.set_cons_succ]
  refine wpAnyH_take (i := 6) (v := ?_) rfl (by kernel_rfl) (by kernel_rfl) (by kernel_rfl) (fun _ _ _ h => h) (Or.inl ⟨by rfl, ?_⟩) hS0 ?_
  rotate_left
  · (intro w hSw; (try dsimp only at hSw); go_simp; try with_reducible rfl)
  simp only [List.getElem_toArray, List.getElem_cons_zero, List.getElem_cons_succ, Act.put, List.setIfInBounds_toArray, List.set_cons_zero, List.set_cons_succ]
  refine wpAnyH_ready (rs := [5]) (by kernel_rfl) (by simp) ?_
  refine AllReadyH.cons rfl (fun K hK => ?_) AllReadyH.nil
  go_simp
  refine (hof _).mono ?_
  rintro e w' ⟨rfl, rfl⟩
  (try go_simp)
  refine hK.out _ _ hS0 (fun _ => ?_)
  clear hK K
  simp only [List.getElem_toArray, List.getElem_cons_zero, List.getElem_cons_succ, Act.put, List.setIfInBounds_toArray, List.set_cons_zero, List.set_cons_succ]
  refine wpAnyH_ready (rs := [7]) (by kernel_rfl) (by simp) ?_
  refine AllReadyH.cons rfl (fun K hK => ?_) AllReadyH.nil
  go_simp
  refine (rmWrite_calls A.rm A.g nr (a % 8192) v F _ (by omega) (by unfold maxLen; omega) (BusW.R hB1_0)).mono ?_
  rintro e v1 ⟨rfl, q1, q2⟩
  have hN := BusW.setR hB1_0 q1 q2
  have hNo := Only.trans hO1_0 (q2.mono (fun k _ e => hS k (by have e : k = A.g := e; omega)))
  (try go_simp)
  refine hK.out _ _ (Blk.cell (BusW.B hN) 2) (fun hS1 => ?_)
  clear hK K hS0
  simp only [List.getElem_toArray, List.getElem_cons_zero, List.getElem_cons_succ, Act.put, List.setIfInBounds_toArray, List.set_cons_zero, List.set_cons_succ]
  refine wpAnyH_done (by kernel_rfl) ?_ _
  have c2 := hS1
  clear hS1
  rw [show a % 8192 % 8192 = a % 8192 by omega] at hN
  go_wp2_with fail
  go_end0
  exact ⟨rfl, hN, hNo⟩
set_option maxRecDepth 100000 in
set_option maxHeartbeats 4000000 in
theorem bsPeek_ram (D : DevA) (A : BusA) (base nr k h a : Nat) (now cyc left np : Int) (F : Nat → Int) (V : Value) (w : World) (ha : a < 4294967296) (hx : whr a = 1) (hB : BusW w D A base now cyc left np nr k h F V) :
    Calls Tryz.prog 8 #[.pointer (some ⟨A.b, 0, none⟩), .int .u32 (a : Int)] w fun e w' => e = .returned (.int .u8 (F (a % 8192))) ∧ Below w.heap.size w w' := by
  have hwh := fun W => phWhere_calls a W ha
  rw [hx] at hwh
  have hof := fun W => phOff_calls a W ha
  have his := bsIs_calls w hB
  go_enter Tryz.func8, Tryz.ntmps8
  go_wp2_with fail
  refine Cl.p his ?_
  clear his
  go_wp2_with fail
  refine Cl.m (hwh _) ?_
  intro w1 hb1
  have hB1 := hB.low hb1
  have c2 : w1.cell? ⟨A.b, 2, none⟩ = some (.pointer (some ⟨A.rm, 0, none⟩)) := Blk.cell hB1.B 2
  clear hwh hB
  go_wp2_with fail
  refine wp_region_held_drew (S := fun W => W.cell? ⟨A.b, 2, none⟩ = some (.pointer (some ⟨A.rm, 0, none⟩)) ∧ BusW W D A base now cyc left np nr k h F V ∧ Below w.heap.size w W) (by kernel_rfl) ⟨(by first | exact c2.drew | exact c2 | exact Below.drew c2), (by first | exact hB1.drew | exact hB1 | exact Below.drew hB1), (by first | exact hb1.drew | exact hb1 | exact Below.drew hb1)⟩ (fun hS0 => ?_)
  clear c2 hB1 hb1
  change wpAnyH _ _ _ _ _ 8 #[false, false, false, false, false, false, false, false] _ _
  generalize w1.drew = v0 at *
  refine wpAnyH_take (i := 0) (v := ?_) rfl (by kernel_rfl) (by kernel_rfl) (by kernel_rfl) (fun _ _ _ h => h) (Or.inl ⟨by rfl, ?_⟩) hS0 ?_
  rotate_left
  · (intro w hSw; (try dsimp only at hSw); go_simp; try with_reducible rfl)
  simp only [List.getElem_toArray, List.getElem_cons_zero, List.getElem_cons_succ, Act.put, List.setIfInBounds_toArray, List.set_cons_zero, List.set_cons_succ]
  refine wpAnyH_take (i := 1) (v := ?_) rfl (by kernel_rfl) (by kernel_rfl) (by kernel_rfl) (fun _ _ _ h => h) (Or.inl ⟨by rfl, ?_⟩) hS0 ?_
  rotate_left
  · (intro w hSw; (try dsimp only at hSw); go_simp; try with_reducible rfl)
  simp only [List.getElem_toArray, List.getElem_cons_zero, List.getElem_cons_succ, Act.put, List.setIfInBounds_toArray, List.set_cons_zero, List.set_cons_succ]
  refine wpAnyH_take (i := 2) (v := ?_) rfl (by kernel_rfl) (by kernel_rfl) (by kernel_rfl) (fun _ _ _ h => h) (Or.inl ⟨by rfl, ?_⟩) hS0 ?_
  rotate_left
  · (intro w hSw; (try dsimp only at hSw); go_simp; try with_reducible rfl)
  simp only [List.getElem_toArray, List.getElem_cons_zero, List.getElem_cons_succ, Act.put, List.setIfInBounds_toArray, List.set_cons_zero, List.set_cons_succ]
  refine wpAnyH_take (i := 3) (v := ?_) rfl (by kernel_rfl) (by kernel_rfl) (by kernel_rfl) (fun _ _ _ h => h) (Or.inl ⟨by rfl, ?_⟩) hS0 ?_
  rotate_left
  · (intro w hSw; (try dsimp only at hSw); go_simp; try with_reducible rfl)
  simp only [List.getElem_toArray, List.getElem_cons_zero, List.getElem_cons_succ, Act.put, List.setIfInBounds_toArray, List.set_cons_zero, List.set_cons_succ]
  refine wpAnyH_take (i := 4) (v := ?_) rfl (by kernel_rfl) (by kernel_rfl) (by kernel_rfl) (fun _ _ _ h => h) (Or.inl ⟨by rfl, ?_⟩) hS0 ?_
  rotate_left
  · (intro w hSw; (try dsimp only at hSw); go_simp; try with_reducible rfl)
  simp only [List.getElem_toArray, List.getElem_cons_zero, List.getElem_cons_succ, Act.put, List.setIfInBounds_toArray, List.set_cons_zero, List.set_cons_succ]
  refine wpAnyH_ready (rs := [5]) (by kernel_rfl) (by simp) ?_
  refine AllReadyH.cons rfl (fun K hK => ?_) AllReadyH.nil
  go_simp
  refine (hof _).mono ?_
  rintro e w' ⟨rfl, rfl⟩
  (try go_simp)
  refine hK.out _ _ hS0 (fun _ => ?_)
  clear hK K
  simp only [List.getElem_toArray, List.getElem_cons_zero, List.getElem_cons_succ, Act.put, List.setIfInBounds_toArray, List.set_cons_zero, List.set_cons_succ]
  refine wpAnyH_ready (rs := [6]) (by kernel_rfl) (by simp) ?_
  refine AllReadyH.cons rfl (fun K hK => ?_) AllReadyH.nil
  go_simp
  refine (rmRead_calls A.rm A.g nr (a % 8192) F _ (by omega) (BusW.R hS0.2.1)).mono ?_
  rintro e w' ⟨rfl, rfl⟩
  (try go_simp)
  refine hK.out _ _ hS0 (fun _ => ?_)
  clear hK K
  simp only [List.getElem_toArray, List.getElem_cons_zero, List.getElem_cons_succ, Act.put, List.setIfInBounds_toArray, List.set_cons_zero, List.set_cons_succ]
  refine wpAnyH_take (i := 7) (v := ?_) rfl (by kernel_rfl) (by kernel_rfl) (by kernel_rfl) (fun _ _ _ h => h) (Or.inl ⟨by rfl, ?_⟩) hS0 ?_
  rotate_left
  · (intro w hSw; (try dsimp only at hSw); go_simp; try with_reducible rfl)
  simp only [List.getElem_toArray, List.getElem_cons_zero, List.getElem_cons_succ, Act.put, List.setIfInBounds_toArray, List.set_cons_zero, List.set_cons_succ]
  refine wpAnyH_done (by kernel_rfl) ?_ _
  have c2 := hS0.1
  have hB1 := hS0.2.1
  have hb1 := hS0.2.2
  clear hS0
  go_wp2_with fail
  go_ret
  exact ⟨rfl, hb1⟩
theorem bnk_ram (a : Nat) (h : whr a = 1) : ((bnk a : Int) == 255) = false := by
  rw [beq_eq_false_iff_ne]
  intro e
  have e : bnk a = 255 := by omega
  rw [whr_hard a e] at h
  revert h
  unfold whO
  repeat (first | omega | split)
theorem bsLoad_ram (D : DevA) (A : BusA) (base nr k h a : Nat) (now cyc left np : Int) (F : Nat → Int) (V : Value) (w : World) (ha : a < 4294967296) (hx : whr a = 1) (hB : BusW w D A base now cyc left np nr k h F V) :
    Calls Tryz.prog 176 #[.pointer (some ⟨A.b, 0, none⟩), .int .u32 (a : Int)] w fun e w' => e = .returned (.int .u8 (F (a % 8192))) ∧ Below w.heap.size w w' := by
  have hbk := fun W => phBank_calls a W ha
  have i5 := bnk_ram a hx
  have hpk := bsPeek_ram D A base nr k h a now cyc left np F V w ha hx hB
  clear hx hB
  go_enter Tryz.func176, Tryz.ntmps176
  go_wp2_with fail
  refine Cl.p (hbk _) ?_
  go_wp2_with fail
  refine Cl.m hpk ?_
  intro w1 hb1
  go_wp2_with fail
  go_ret
  exact ⟨rfl, hb1⟩
end Go.Proofs.YtplobngbjpgcgaaGreatDoor
end
section
/-
  What is known of types.
-/
namespace Go.Proofs.YtplobngbjpgcgaaGreatDoor
set_option linter.unusedSimpArgs false
set_option linter.unusedVariables false
set_option maxRecDepth 10000
open Go.RowKit

end Go.Proofs.YtplobngbjpgcgaaGreatDoor
end
