/-
  hard: Status, Choose.
-/
import Derived.Test.YtggcnlcnmaaopaaTick2
namespace Go.Proofs.Ytggcnlcnmaaopaa
set_option linter.unusedSimpArgs false
set_option linter.unusedVariables false
set_option maxRecDepth 10000
open Go.RowKit Pl
section
variable {w : World} {D : DevA} {R C d h : Nat} {on u : Bool} {L now : Int}
theorem dvSelect (x : Dev w D R C on L d u now h) : Calls Try.prog 35 #[.pointer (some ⟨D.po, 0, none⟩)] w fun e w' => e = .returned (.int .u8 0) ∧ w = w' := ptSelect_calls D.po D.gf 0 0 w x.P
theorem dvTakenP (x : Dev w D R C on L d u now h) : Calls Try.prog 40 #[.pointer (some ⟨D.po, 0, none⟩)] w fun e w' => e = .returned (.int .i64 0) ∧ w = w' := ptTaken_calls D.po D.gf 0 0 D.o1 0 D.c1 0 w x.P x.F
theorem dvTakenG (x : Dev w D R C on L d u now h) : Calls Try.prog 39 #[.pointer (some ⟨D.vd, 0, none⟩)] w fun e w' => e = .returned (.int .i64 0) ∧ w = w' := fdTaken_calls D.vd D.o2 0 D.c2 0 w x.G
theorem dvTakenV (x : Dev w D R C on L d u now h) : Calls Try.prog 39 #[.pointer (some ⟨D.vc, 0, none⟩)] w fun e w' => e = .returned (.int .i64 0) ∧ w = w' := fdTaken_calls D.vc D.o3 0 D.c3 0 w x.V
end
def stC (h R C d : Nat) (L : Int) (on u : Bool) : Array Value := #[.int .u8 (h : Int), .int .u8 (R : Int), .int .u8 (C : Int), .int .u8 (d : Int), .int .u8 0, .int .i64 L, .bool on, .bool u, .bool false, .int .i64 0, .int .i64 0, .int .i64 0]
def stZ : Array Value := #[.int .u8 0, .int .u8 0, .int .u8 0, .int .u8 0, .int .u8 0, .int .i64 0, .bool false, .bool false, .bool false, .int .i64 0, .int .i64 0, .int .i64 0]
set_option maxRecDepth 100000 in
set_option maxHeartbeats 8000000 in
theorem hdStatus (D : DevA) (R C d h : Nat) (on u : Bool) (L now : Int) (w : World) (hD : Dev w D R C on L d u now h) :
    Calls Try.prog 11 #[.pointer (some ⟨D.p, 0, none⟩)] w fun e w' => e = .returned (.agg (stC h R C d L on u)) ∧ Below w.heap.size w w' := by
  have hz : Blk (w.alloc (.cells stZ 41)) w.heap.size 41 stZ := Blk.new _ _ _
  have hD1 : Dev (w.alloc (.cells stZ 41)) D R C on L d u now h := hD.low (Bl.alloc (Below.refl _ _) _)
  have hb1 : Below w.heap.size w (w.alloc (.cells stZ 41)) := Bl.alloc (Below.refl _ _) _
  have hpz : D.p < w.heap.size := Blk.lt hD.H
  clear hD
  obtain ⟨c0, c1, c2, c3, c4, c5, c6, c7⟩ := hD1.cells
  go_enter Try.func11, Try.ntmps11
  go_wp2_with fail
  unfold stZ at hz hD1 hb1 c0 c1 c2 c3 c4 c5 c6
  clear c7
  generalize w.alloc (.cells #[.int .u8 0, .int .u8 0, .int .u8 0, .int .u8 0, .int .u8 0, .int .i64 0, .bool false, .bool false, .bool false, .int .i64 0, .int .i64 0, .int .i64 0] 41) = w1 at *
  obtain ⟨gz, hgz⟩ : ∃ x, w.heap.size = x := ⟨_, rfl⟩
  have hge : w.heap.size ≤ gz := by omega
  rw [hgz] at hz hpz ⊢
  clear hgz
  refine wp_region_held_drew (S := fun W => W.cell? ⟨D.p, 0, none⟩ = some (.pointer (some ⟨D.t, 0, none⟩)) ∧ W.cell? ⟨D.p, 1, none⟩ = some (.pointer (some ⟨D.l, 0, none⟩)) ∧ W.cell? ⟨D.p, 2, none⟩ = some (.pointer (some ⟨D.bu, 0, none⟩)) ∧ W.cell? ⟨D.p, 3, none⟩ = some (.pointer (some ⟨D.a, 0, none⟩)) ∧ W.cell? ⟨D.p, 4, none⟩ = some (.pointer (some ⟨D.po, 0, none⟩)) ∧ W.cell? ⟨D.p, 5, none⟩ = some (.pointer (some ⟨D.vd, 0, none⟩)) ∧ W.cell? ⟨D.p, 6, none⟩ = some (.pointer (some ⟨D.vc, 0, none⟩)) ∧ Dev W D R C on L d u now h ∧ Below w.heap.size w W) (by kernel_rfl) ⟨(by first | exact c0.drew | exact c0 | exact Below.drew c0), (by first | exact c1.drew | exact c1 | exact Below.drew c1), (by first | exact c2.drew | exact c2 | exact Below.drew c2), (by first | exact c3.drew | exact c3 | exact Below.drew c3), (by first | exact c4.drew | exact c4 | exact Below.drew c4), (by first | exact c5.drew | exact c5 | exact Below.drew c5), (by first | exact c6.drew | exact c6 | exact Below.drew c6), (by first | exact hD1.drew | exact hD1 | exact Below.drew hD1), (by first | exact hb1.drew | exact hb1 | exact Below.drew hb1)⟩ (fun hS0 => ?_)
  have hz_0 : Blk w1.drew gz 41 #[.int .u8 0, .int .u8 0, .int .u8 0, .int .u8 0, .int .u8 0, .int .i64 0, .bool false, .bool false, .bool false, .int .i64 0, .int .i64 0, .int .i64 0] := by first | exact hz.drew | exact hz
  clear c0 c1 c2 c3 c4 c5 c6 hD1 hb1 hz
  change wpAnyH _ _ _ _ _ 62 #[false, false, false, false, false, false, false, false, false, false, false, false, false, false, false, false, false, false, false, false, false, false, false, false, false, false, false, false, false, false, false, false, false, false, false, false, false, false, false, false, false, false, false, false, false, false, false, false, false, false, false, false, false, false, false, false, false, false, false, false, false, false] _ _
  generalize w1.drew = v0 at *
  refine wpAnyH_take (i := 0) (v := ?_) rfl (by kernel_rfl) (by kernel_rfl) (by kernel_rfl) (fun _ _ _ h => h) (Or.inl ⟨by rfl, ?_⟩) hS0 ?_
  rotate_left
  · (intro w hSw; (try dsimp only at hSw); go_simp; try with_reducible rfl)
  simp only [List.getElem_toArray, List.getElem_cons_zero, List.getElem_cons_succ, Act.put, List.setIfInBounds_toArray, List.set_cons_zero, List.set_cons_succ]
  refine wpAnyH_take (i := 1) (v := ?_) rfl (by kernel_rfl) (by kernel_rfl) (by kernel_rfl) (fun _ _ _ h => h) (Or.inl ⟨by rfl, ?_⟩) hS0 ?_
  rotate_left
  · (intro w hSw; (try dsimp only at hSw); go_simp; try with_reducible rfl)
  simp only [List.getElem_toArray, List.getElem_cons_zero, List.getElem_cons_succ, Act.put, List.setIfInBounds_toArray, List.set_cons_zero, List.set_cons_succ]
  refine wpAnyH_take (i := 2) (v := ?_) rfl (by kernel_rfl) (by kernel_rfl) (by kernel_rfl) (fun _ _ _ h => h) (Or.inl ⟨by rfl, ?_⟩) hS0 ?_
  rotate_left
  · (intro w hSw; (try dsimp only at hSw); go_simp; try with_reducible rfl)
  simp only [List.getElem_toArray, List.getElem_cons_zero, List.getElem_cons_succ, Act.put, List.setIfInBounds_toArray, List.set_cons_zero, List.set_cons_succ]
  refine wpAnyH_take (i := 3) (v := ?_) rfl (by kernel_rfl) (by kernel_rfl) (by kernel_rfl) (fun _ _ _ h => h) (Or.inl ⟨by rfl, ?_⟩) hS0 ?_
  rotate_left
  · (intro w hSw; (try dsimp only at hSw); go_simp; try with_reducible rfl)
  simp only [List.getElem_toArray, List.getElem_cons_zero, List.getElem_cons_succ, Act.put, List.setIfInBounds_toArray, List.set_cons_zero, List.set_cons_succ]
  refine wpAnyH_take (i := 5) (v := ?_) rfl (by kernel_rfl) (by kernel_rfl) (by kernel_rfl) (fun _ _ _ h => h) (Or.inl ⟨by rfl, ?_⟩) hS0 ?_
  rotate_left
  · (intro w hSw; (try dsimp only at hSw); go_simp; try with_reducible rfl)
  simp only [List.getElem_toArray, List.getElem_cons_zero, List.getElem_cons_succ, Act.put, List.setIfInBounds_toArray, List.set_cons_zero, List.set_cons_succ]
  refine wpAnyH_take (i := 6) (v := ?_) rfl (by kernel_rfl) (by kernel_rfl) (by kernel_rfl) (fun _ _ _ h => h) (Or.inl ⟨by rfl, ?_⟩) hS0 ?_
  rotate_left
  · (intro w hSw; (try dsimp only at hSw); go_simp; try with_reducible rfl)
  simp only [List.getElem_toArray, List.getElem_cons_zero, List.getElem_cons_succ, Act.put, List.setIfInBounds_toArray, List.set_cons_zero, List.set_cons_succ]
  refine wpAnyH_take (i := 7) (v := ?_) rfl (by kernel_rfl) (by kernel_rfl) (by kernel_rfl) (fun _ _ _ h => h) (Or.inl ⟨by rfl, ?_⟩) hS0 ?_
  rotate_left
  · (intro w hSw; (try dsimp only at hSw); go_simp; try with_reducible rfl)
  simp only [List.getElem_toArray, List.getElem_cons_zero, List.getElem_cons_succ, Act.put, List.setIfInBounds_toArray, List.set_cons_zero, List.set_cons_succ]
  refine wpAnyH_take (i := 8) (v := ?_) rfl (by kernel_rfl) (by kernel_rfl) (by kernel_rfl) (fun _ _ _ h => h) (Or.inl ⟨by rfl, ?_⟩) hS0 ?_
  rotate_left
  · (intro w hSw; (try dsimp only at hSw); go_simp; try with_reducible rfl)
  simp only [List.getElem_toArray, List.getElem_cons_zero, List.getElem_cons_succ, Act.put, List.setIfInBounds_toArray, List.set_cons_zero, List.set_cons_succ]
  refine wpAnyH_take (i := 10) (v := ?_) rfl (by kernel_rfl) (by kernel_rfl) (by kernel_rfl) (fun _ _ _ h => h) (Or.inl ⟨by rfl, ?_⟩) hS0 ?_
  rotate_left
  · (intro w hSw; (try dsimp only at hSw); go_simp; try with_reducible rfl)
  simp only [List.getElem_toArray, List.getElem_cons_zero, List.getElem_cons_succ, Act.put, List.setIfInBounds_toArray, List.set_cons_zero, List.set_cons_succ]
  refine wpAnyH_take (i := 11) (v := ?_) rfl (by kernel_rfl) (by kernel_rfl) (by kernel_rfl) (fun _ _ _ h => h) (Or.inl ⟨by rfl, ?_⟩) hS0 ?_
  rotate_left
  · (intro w hSw; (try dsimp only at hSw); go_simp; try with_reducible rfl)
  simp only [List.getElem_toArray, List.getElem_cons_zero, List.getElem_cons_succ, Act.put, List.setIfInBounds_toArray, List.set_cons_zero, List.set_cons_succ]
  refine wpAnyH_take (i := 12) (v := ?_) rfl (by kernel_rfl) (by kernel_rfl) (by kernel_rfl) (fun _ _ _ h => h) (Or.inl ⟨by rfl, ?_⟩) hS0 ?_
  rotate_left
  · (intro w hSw; (try dsimp only at hSw); go_simp; try with_reducible rfl)
  simp only [List.getElem_toArray, List.getElem_cons_zero, List.getElem_cons_succ, Act.put, List.setIfInBounds_toArray, List.set_cons_zero, List.set_cons_succ]
  refine wpAnyH_take (i := 13) (v := ?_) rfl (by kernel_rfl) (by kernel_rfl) (by kernel_rfl) (fun _ _ _ h => h) (Or.inl ⟨by rfl, ?_⟩) hS0 ?_
  rotate_left
  · (intro w hSw; (try dsimp only at hSw); go_simp; try with_reducible rfl)
  simp only [List.getElem_toArray, List.getElem_cons_zero, List.getElem_cons_succ, Act.put, List.setIfInBounds_toArray, List.set_cons_zero, List.set_cons_succ]
  refine wpAnyH_take (i := 15) (v := ?_) rfl (by kernel_rfl) (by kernel_rfl) (by kernel_rfl) (fun _ _ _ h => h) (Or.inl ⟨by rfl, ?_⟩) hS0 ?_
  rotate_left
  · (intro w hSw; (try dsimp only at hSw); go_simp; try with_reducible rfl)
  simp only [List.getElem_toArray, List.getElem_cons_zero, List.getElem_cons_succ, Act.put, List.setIfInBounds_toArray, List.set_cons_zero, List.set_cons_succ]
  refine wpAnyH_take (i := 16) (v := ?_) rfl (by kernel_rfl) (by kernel_rfl) (by kernel_rfl) (fun _ _ _ h => h) (Or.inl ⟨by rfl, ?_⟩) hS0 ?_
  rotate_left
  · (intro w hSw; (try dsimp only at hSw); go_simp; try with_reducible rfl)
  simp only [List.getElem_toArray, List.getElem_cons_zero, List.getElem_cons_succ, Act.put, List.setIfInBounds_toArray, List.set_cons_zero, List.set_cons_succ]
  refine wpAnyH_take (i := 17) (v := ?_) rfl (by kernel_rfl) (by kernel_rfl) (by kernel_rfl) (fun _ _ _ h => h) (Or.inl ⟨by rfl, ?_⟩) hS0 ?_
  rotate_left
  · (intro w hSw; (try dsimp only at hSw); go_simp; try with_reducible rfl)
  simp only [List.getElem_toArray, List.getElem_cons_zero, List.getElem_cons_succ, Act.put, List.setIfInBounds_toArray, List.set_cons_zero, List.set_cons_succ]
  refine wpAnyH_take (i := 18) (v := ?_) rfl (by kernel_rfl) (by kernel_rfl) (by kernel_rfl) (fun _ _ _ h => h) (Or.inl ⟨by rfl, ?_⟩) hS0 ?_
  rotate_left
  · (intro w hSw; (try dsimp only at hSw); go_simp; try with_reducible rfl)
  simp only [List.getElem_toArray, List.getElem_cons_zero, List.getElem_cons_succ, Act.put, List.setIfInBounds_toArray, List.set_cons_zero, List.set_cons_succ]
  refine wpAnyH_take (i := 20) (v := ?_) rfl (by kernel_rfl) (by kernel_rfl) (by kernel_rfl) (fun _ _ _ h => h) (Or.inl ⟨by rfl, ?_⟩) hS0 ?_
  rotate_left
  · (intro w hSw; (try dsimp only at hSw); go_simp; try with_reducible rfl)
  simp only [List.getElem_toArray, List.getElem_cons_zero, List.getElem_cons_succ, Act.put, List.setIfInBounds_toArray, List.set_cons_zero, List.set_cons_succ]
  refine wpAnyH_take (i := 21) (v := ?_) rfl (by kernel_rfl) (by kernel_rfl) (by kernel_rfl) (fun _ _ _ h => h) (Or.inl ⟨by rfl, ?_⟩) hS0 ?_
  rotate_left
  · (intro w hSw; (try dsimp only at hSw); go_simp; try with_reducible rfl)
  simp only [List.getElem_toArray, List.getElem_cons_zero, List.getElem_cons_succ, Act.put, List.setIfInBounds_toArray, List.set_cons_zero, List.set_cons_succ]
  refine wpAnyH_take (i := 22) (v := ?_) rfl (by kernel_rfl) (by kernel_rfl) (by kernel_rfl) (fun _ _ _ h => h) (Or.inl ⟨by rfl, ?_⟩) hS0 ?_
  rotate_left
  · (intro w hSw; (try dsimp only at hSw); go_simp; try with_reducible rfl)
  simp only [List.getElem_toArray, List.getElem_cons_zero, List.getElem_cons_succ, Act.put, List.setIfInBounds_toArray, List.set_cons_zero, List.set_cons_succ]
  refine wpAnyH_take (i := 23) (v := ?_) rfl (by kernel_rfl) (by kernel_rfl) (by kernel_rfl) (fun _ _ _ h => h) (Or.inl ⟨by rfl, ?_⟩) hS0 ?_
  rotate_left
  · (intro w hSw; (try dsimp only at hSw); go_simp; try with_reducible rfl)
  simp only [List.getElem_toArray, List.getElem_cons_zero, List.getElem_cons_succ, Act.put, List.setIfInBounds_toArray, List.set_cons_zero, List.set_cons_succ]
  refine wpAnyH_take (i := 25) (v := ?_) rfl (by kernel_rfl) (by kernel_rfl) (by kernel_rfl) (fun _ _ _ h => h) (Or.inl ⟨by rfl, ?_⟩) hS0 ?_
  rotate_left
  · (intro w hSw; (try dsimp only at hSw); go_simp; try with_reducible rfl)
  simp only [List.getElem_toArray, List.getElem_cons_zero, List.getElem_cons_succ, Act.put, List.setIfInBounds_toArray, List.set_cons_zero, List.set_cons_succ]
  refine wpAnyH_take (i := 26) (v := ?_) rfl (by kernel_rfl) (by kernel_rfl) (by kernel_rfl) (fun _ _ _ h => h) (Or.inl ⟨by rfl, ?_⟩) hS0 ?_
  rotate_left
  · (intro w hSw; (try dsimp only at hSw); go_simp; try with_reducible rfl)
  simp only [List.getElem_toArray, List.getElem_cons_zero, List.getElem_cons_succ, Act.put, List.setIfInBounds_toArray, List.set_cons_zero, List.set_cons_succ]
  refine wpAnyH_take (i := 27) (v := ?_) rfl (by kernel_rfl) (by kernel_rfl) (by kernel_rfl) (fun _ _ _ h => h) (Or.inl ⟨by rfl, ?_⟩) hS0 ?_
  rotate_left
  · (intro w hSw; (try dsimp only at hSw); go_simp; try with_reducible rfl)
  simp only [List.getElem_toArray, List.getElem_cons_zero, List.getElem_cons_succ, Act.put, List.setIfInBounds_toArray, List.set_cons_zero, List.set_cons_succ]
  refine wpAnyH_take (i := 28) (v := ?_) rfl (by kernel_rfl) (by kernel_rfl) (by kernel_rfl) (fun _ _ _ h => h) (Or.inl ⟨by rfl, ?_⟩) hS0 ?_
  rotate_left
  · (intro w hSw; (try dsimp only at hSw); go_simp; try with_reducible rfl)
  simp only [List.getElem_toArray, List.getElem_cons_zero, List.getElem_cons_succ, Act.put, List.setIfInBounds_toArray, List.set_cons_zero, List.set_cons_succ]
  refine wpAnyH_take (i := 30) (v := ?_) rfl (by kernel_rfl) (by kernel_rfl) (by kernel_rfl) (fun _ _ _ h => h) (Or.inl ⟨by rfl, ?_⟩) hS0 ?_
  rotate_left
  · (intro w hSw; (try dsimp only at hSw); go_simp; try with_reducible rfl)
  simp only [List.getElem_toArray, List.getElem_cons_zero, List.getElem_cons_succ, Act.put, List.setIfInBounds_toArray, List.set_cons_zero, List.set_cons_succ]
  refine wpAnyH_take (i := 31) (v := ?_) rfl (by kernel_rfl) (by kernel_rfl) (by kernel_rfl) (fun _ _ _ h => h) (Or.inl ⟨by rfl, ?_⟩) hS0 ?_
  rotate_left
  · (intro w hSw; (try dsimp only at hSw); go_simp; try with_reducible rfl)
  simp only [List.getElem_toArray, List.getElem_cons_zero, List.getElem_cons_succ, Act.put, List.setIfInBounds_toArray, List.set_cons_zero, List.set_cons_succ]
  refine wpAnyH_take (i := 32) (v := ?_) rfl (by kernel_rfl) (by kernel_rfl) (by kernel_rfl) (fun _ _ _ h => h) (Or.inl ⟨by rfl, ?_⟩) hS0 ?_
  rotate_left
  · (intro w hSw; (try dsimp only at hSw); go_simp; try with_reducible rfl)
  simp only [List.getElem_toArray, List.getElem_cons_zero, List.getElem_cons_succ, Act.put, List.setIfInBounds_toArray, List.set_cons_zero, List.set_cons_succ]
  refine wpAnyH_take (i := 33) (v := ?_) rfl (by kernel_rfl) (by kernel_rfl) (by kernel_rfl) (fun _ _ _ h => h) (Or.inl ⟨by rfl, ?_⟩) hS0 ?_
  rotate_left
  · (intro w hSw; (try dsimp only at hSw); go_simp; try with_reducible rfl)
  simp only [List.getElem_toArray, List.getElem_cons_zero, List.getElem_cons_succ, Act.put, List.setIfInBounds_toArray, List.set_cons_zero, List.set_cons_succ]
  refine wpAnyH_take (i := 35) (v := ?_) rfl (by kernel_rfl) (by kernel_rfl) (by kernel_rfl) (fun _ _ _ h => h) (Or.inl ⟨by rfl, ?_⟩) hS0 ?_
  rotate_left
  · (intro w hSw; (try dsimp only at hSw); go_simp; try with_reducible rfl)
  simp only [List.getElem_toArray, List.getElem_cons_zero, List.getElem_cons_succ, Act.put, List.setIfInBounds_toArray, List.set_cons_zero, List.set_cons_succ]
  refine wpAnyH_take (i := 36) (v := ?_) rfl (by kernel_rfl) (by kernel_rfl) (by kernel_rfl) (fun _ _ _ h => h) (Or.inl ⟨by rfl, ?_⟩) hS0 ?_
  rotate_left
  · (intro w hSw; (try dsimp only at hSw); go_simp; try with_reducible rfl)
  simp only [List.getElem_toArray, List.getElem_cons_zero, List.getElem_cons_succ, Act.put, List.setIfInBounds_toArray, List.set_cons_zero, List.set_cons_succ]
  refine wpAnyH_take (i := 37) (v := ?_) rfl (by kernel_rfl) (by kernel_rfl) (by kernel_rfl) (fun _ _ _ h => h) (Or.inl ⟨by rfl, ?_⟩) hS0 ?_
  rotate_left
  · (intro w hSw; (try dsimp only at hSw); go_simp; try with_reducible rfl)
  simp only [List.getElem_toArray, List.getElem_cons_zero, List.getElem_cons_succ, Act.put, List.setIfInBounds_toArray, List.set_cons_zero, List.set_cons_succ]
  refine wpAnyH_take (i := 38) (v := ?_) rfl (by kernel_rfl) (by kernel_rfl) (by kernel_rfl) (fun _ _ _ h => h) (Or.inl ⟨by rfl, ?_⟩) hS0 ?_
  rotate_left
  · (intro w hSw; (try dsimp only at hSw); go_simp; try with_reducible rfl)
  simp only [List.getElem_toArray, List.getElem_cons_zero, List.getElem_cons_succ, Act.put, List.setIfInBounds_toArray, List.set_cons_zero, List.set_cons_succ]
  refine wpAnyH_take (i := 40) (v := ?_) rfl (by kernel_rfl) (by kernel_rfl) (by kernel_rfl) (fun _ _ _ h => h) (Or.inl ⟨by rfl, ?_⟩) hS0 ?_
  rotate_left
  · (intro w hSw; (try dsimp only at hSw); go_simp; try with_reducible rfl)
  simp only [List.getElem_toArray, List.getElem_cons_zero, List.getElem_cons_succ, Act.put, List.setIfInBounds_toArray, List.set_cons_zero, List.set_cons_succ]
  refine wpAnyH_take (i := 41) (v := ?_) rfl (by kernel_rfl) (by kernel_rfl) (by kernel_rfl) (fun _ _ _ h => h) (Or.inl ⟨by rfl, ?_⟩) hS0 ?_
  rotate_left
  · (intro w hSw; (try dsimp only at hSw); go_simp; try with_reducible rfl)
  simp only [List.getElem_toArray, List.getElem_cons_zero, List.getElem_cons_succ, Act.put, List.setIfInBounds_toArray, List.set_cons_zero, List.set_cons_succ]
  refine wpAnyH_take (i := 42) (v := ?_) rfl (by kernel_rfl) (by kernel_rfl) (by kernel_rfl) (fun _ _ _ h => h) (Or.inl ⟨by rfl, ?_⟩) hS0 ?_
  rotate_left
  · (intro w hSw; (try dsimp only at hSw); go_simp; try with_reducible rfl)
  simp only [List.getElem_toArray, List.getElem_cons_zero, List.getElem_cons_succ, Act.put, List.setIfInBounds_toArray, List.set_cons_zero, List.set_cons_succ]
  refine wpAnyH_take (i := 43) (v := ?_) rfl (by kernel_rfl) (by kernel_rfl) (by kernel_rfl) (fun _ _ _ h => h) (Or.inl ⟨by rfl, ?_⟩) hS0 ?_
  rotate_left
  · (intro w hSw; (try dsimp only at hSw); go_simp; try with_reducible rfl)
  simp only [List.getElem_toArray, List.getElem_cons_zero, List.getElem_cons_succ, Act.put, List.setIfInBounds_toArray, List.set_cons_zero, List.set_cons_succ]
  refine wpAnyH_take (i := 45) (v := ?_) rfl (by kernel_rfl) (by kernel_rfl) (by kernel_rfl) (fun _ _ _ h => h) (Or.inl ⟨by rfl, ?_⟩) hS0 ?_
  rotate_left
  · (intro w hSw; (try dsimp only at hSw); go_simp; try with_reducible rfl)
  simp only [List.getElem_toArray, List.getElem_cons_zero, List.getElem_cons_succ, Act.put, List.setIfInBounds_toArray, List.set_cons_zero, List.set_cons_succ]
  refine wpAnyH_take (i := 46) (v := ?_) rfl (by kernel_rfl) (by kernel_rfl) (by kernel_rfl) (fun _ _ _ h => h) (Or.inl ⟨by rfl, ?_⟩) hS0 ?_
  rotate_left
  · (intro w hSw; (try dsimp only at hSw); go_simp; try with_reducible rfl)
  simp only [List.getElem_toArray, List.getElem_cons_zero, List.getElem_cons_succ, Act.put, List.setIfInBounds_toArray, List.set_cons_zero, List.set_cons_succ]
  refine wpAnyH_take (i := 47) (v := ?_) rfl (by kernel_rfl) (by kernel_rfl) (by kernel_rfl) (fun _ _ _ h => h) (Or.inl ⟨by rfl, ?_⟩) hS0 ?_
  rotate_left
  · (intro w hSw; (try dsimp only at hSw); go_simp; try with_reducible rfl)
  simp only [List.getElem_toArray, List.getElem_cons_zero, List.getElem_cons_succ, Act.put, List.setIfInBounds_toArray, List.set_cons_zero, List.set_cons_succ]
  refine wpAnyH_take (i := 48) (v := ?_) rfl (by kernel_rfl) (by kernel_rfl) (by kernel_rfl) (fun _ _ _ h => h) (Or.inl ⟨by rfl, ?_⟩) hS0 ?_
  rotate_left
  · (intro w hSw; (try dsimp only at hSw); go_simp; try with_reducible rfl)
  simp only [List.getElem_toArray, List.getElem_cons_zero, List.getElem_cons_succ, Act.put, List.setIfInBounds_toArray, List.set_cons_zero, List.set_cons_succ]
  refine wpAnyH_take (i := 50) (v := ?_) rfl (by kernel_rfl) (by kernel_rfl) (by kernel_rfl) (fun _ _ _ h => h) (Or.inl ⟨by rfl, ?_⟩) hS0 ?_
  rotate_left
  · (intro w hSw; (try dsimp only at hSw); go_simp; try with_reducible rfl)
  simp only [List.getElem_toArray, List.getElem_cons_zero, List.getElem_cons_succ, Act.put, List.setIfInBounds_toArray, List.set_cons_zero, List.set_cons_succ]
  refine wpAnyH_take (i := 51) (v := ?_) rfl (by kernel_rfl) (by kernel_rfl) (by kernel_rfl) (fun _ _ _ h => h) (Or.inl ⟨by rfl, ?_⟩) hS0 ?_
  rotate_left
  · (intro w hSw; (try dsimp only at hSw); go_simp; try with_reducible rfl)
  simp only [List.getElem_toArray, List.getElem_cons_zero, List.getElem_cons_succ, Act.put, List.setIfInBounds_toArray, List.set_cons_zero, List.set_cons_succ]
  refine wpAnyH_take (i := 52) (v := ?_) rfl (by kernel_rfl) (by kernel_rfl) (by kernel_rfl) (fun _ _ _ h => h) (Or.inl ⟨by rfl, ?_⟩) hS0 ?_
  rotate_left
  · (intro w hSw; (try dsimp only at hSw); go_simp; try with_reducible rfl)
  simp only [List.getElem_toArray, List.getElem_cons_zero, List.getElem_cons_succ, Act.put, List.setIfInBounds_toArray, List.set_cons_zero, List.set_cons_succ]
  refine wpAnyH_take (i := 53) (v := ?_) rfl (by kernel_rfl) (by kernel_rfl) (by kernel_rfl) (fun _ _ _ h => h) (Or.inl ⟨by rfl, ?_⟩) hS0 ?_
  rotate_left
  · (intro w hSw; (try dsimp only at hSw); go_simp; try with_reducible rfl)
  simp only [List.getElem_toArray, List.getElem_cons_zero, List.getElem_cons_succ, Act.put, List.setIfInBounds_toArray, List.set_cons_zero, List.set_cons_succ]
  refine wpAnyH_take (i := 55) (v := ?_) rfl (by kernel_rfl) (by kernel_rfl) (by kernel_rfl) (fun _ _ _ h => h) (Or.inl ⟨by rfl, ?_⟩) hS0 ?_
  rotate_left
  · (intro w hSw; (try dsimp only at hSw); go_simp; try with_reducible rfl)
  simp only [List.getElem_toArray, List.getElem_cons_zero, List.getElem_cons_succ, Act.put, List.setIfInBounds_toArray, List.set_cons_zero, List.set_cons_succ]
  refine wpAnyH_take (i := 56) (v := ?_) rfl (by kernel_rfl) (by kernel_rfl) (by kernel_rfl) (fun _ _ _ h => h) (Or.inl ⟨by rfl, ?_⟩) hS0 ?_
  rotate_left
  · (intro w hSw; (try dsimp only at hSw); go_simp; try with_reducible rfl)
  simp only [List.getElem_toArray, List.getElem_cons_zero, List.getElem_cons_succ, Act.put, List.setIfInBounds_toArray, List.set_cons_zero, List.set_cons_succ]
  refine wpAnyH_take (i := 57) (v := ?_) rfl (by kernel_rfl) (by kernel_rfl) (by kernel_rfl) (fun _ _ _ h => h) (Or.inl ⟨by rfl, ?_⟩) hS0 ?_
  rotate_left
  · (intro w hSw; (try dsimp only at hSw); go_simp; try with_reducible rfl)
  simp only [List.getElem_toArray, List.getElem_cons_zero, List.getElem_cons_succ, Act.put, List.setIfInBounds_toArray, List.set_cons_zero, List.set_cons_succ]
  refine wpAnyH_take (i := 58) (v := ?_) rfl (by kernel_rfl) (by kernel_rfl) (by kernel_rfl) (fun _ _ _ h => h) (Or.inl ⟨by rfl, ?_⟩) hS0 ?_
  rotate_left
  · (intro w hSw; (try dsimp only at hSw); go_simp; try with_reducible rfl)
  simp only [List.getElem_toArray, List.getElem_cons_zero, List.getElem_cons_succ, Act.put, List.setIfInBounds_toArray, List.set_cons_zero, List.set_cons_succ]
  refine wpAnyH_ready (rs := [4]) (by kernel_rfl) (by simp) ?_
  refine AllReadyH.cons rfl (fun K hK => ?_) AllReadyH.nil
  go_simp
  refine (latValue_calls D.bu h _ (Dev.A hS0.2.2.2.2.2.2.2.1)).mono ?_
  rintro e w' ⟨rfl, rfl⟩
  (try go_simp)
  refine hK.out _ _ hS0 (fun _ => ?_)
  clear hK K
  simp only [List.getElem_toArray, List.getElem_cons_zero, List.getElem_cons_succ, Act.put, List.setIfInBounds_toArray, List.set_cons_zero, List.set_cons_succ]
  refine wpAnyH_ready (rs := [9]) (by kernel_rfl) (by simp) ?_
  refine AllReadyH.cons rfl (fun K hK => ?_) AllReadyH.nil
  go_simp
  refine (tmReload_calls D.t R C on L _ (Dev.T hS0.2.2.2.2.2.2.2.1)).mono ?_
  rintro e w' ⟨rfl, rfl⟩
  (try go_simp)
  refine hK.out _ _ hS0 (fun _ => ?_)
  clear hK K
  simp only [List.getElem_toArray, List.getElem_cons_zero, List.getElem_cons_succ, Act.put, List.setIfInBounds_toArray, List.set_cons_zero, List.set_cons_succ]
  refine wpAnyH_ready (rs := [14]) (by kernel_rfl) (by simp) ?_
  refine AllReadyH.cons rfl (fun K hK => ?_) AllReadyH.nil
  go_simp
  refine (tmCounter_calls D.t R C on L _ (Dev.T hS0.2.2.2.2.2.2.2.1)).mono ?_
  rintro e w' ⟨rfl, rfl⟩
  (try go_simp)
  refine hK.out _ _ hS0 (fun _ => ?_)
  clear hK K
  simp only [List.getElem_toArray, List.getElem_cons_zero, List.getElem_cons_succ, Act.put, List.setIfInBounds_toArray, List.set_cons_zero, List.set_cons_succ]
  refine wpAnyH_ready (rs := [19]) (by kernel_rfl) (by simp) ?_
  refine AllReadyH.cons rfl (fun K hK => ?_) AllReadyH.nil
  go_simp
  refine (iqDisable_calls D.a d u _ (Dev.I hS0.2.2.2.2.2.2.2.1)).mono ?_
  rintro e w' ⟨rfl, rfl⟩
  (try go_simp)
  refine hK.out _ _ hS0 (fun _ => ?_)
  clear hK K
  simp only [List.getElem_toArray, List.getElem_cons_zero, List.getElem_cons_succ, Act.put, List.setIfInBounds_toArray, List.set_cons_zero, List.set_cons_succ]
  refine wpAnyH_ready (rs := [24]) (by kernel_rfl) (by simp) ?_
  refine AllReadyH.cons rfl (fun K hK => ?_) AllReadyH.nil
  go_simp
  refine (dvSelect hS0.2.2.2.2.2.2.2.1).mono ?_
  rintro e w' ⟨rfl, rfl⟩
  (try go_simp)
  refine hK.out _ _ hS0 (fun _ => ?_)
  clear hK K
  simp only [List.getElem_toArray, List.getElem_cons_zero, List.getElem_cons_succ, Act.put, List.setIfInBounds_toArray, List.set_cons_zero, List.set_cons_succ]
  refine wpAnyH_ready (rs := [29]) (by kernel_rfl) (by simp) ?_
  refine AllReadyH.cons rfl (fun K hK => ?_) AllReadyH.nil
  go_simp
  refine (tmLeft_calls D.t R C on L _ (Dev.T hS0.2.2.2.2.2.2.2.1)).mono ?_
  rintro e w' ⟨rfl, rfl⟩
  (try go_simp)
  refine hK.out _ _ hS0 (fun _ => ?_)
  clear hK K
  simp only [List.getElem_toArray, List.getElem_cons_zero, List.getElem_cons_succ, Act.put, List.setIfInBounds_toArray, List.set_cons_zero, List.set_cons_succ]
  refine wpAnyH_ready (rs := [34]) (by kernel_rfl) (by simp) ?_
  refine AllReadyH.cons rfl (fun K hK => ?_) AllReadyH.nil
  go_simp
  refine (tmOn_calls D.t R C on L _ (Dev.T hS0.2.2.2.2.2.2.2.1)).mono ?_
  rintro e w' ⟨rfl, rfl⟩
  (try go_simp)
  refine hK.out _ _ hS0 (fun _ => ?_)
  clear hK K
  simp only [List.getElem_toArray, List.getElem_cons_zero, List.getElem_cons_succ, Act.put, List.setIfInBounds_toArray, List.set_cons_zero, List.set_cons_succ]
  refine wpAnyH_ready (rs := [39]) (by kernel_rfl) (by simp) ?_
  refine AllReadyH.cons rfl (fun K hK => ?_) AllReadyH.nil
  go_simp
  refine (iqDue_calls D.a d u _ (Dev.I hS0.2.2.2.2.2.2.2.1)).mono ?_
  rintro e w' ⟨rfl, rfl⟩
  (try go_simp)
  refine hK.out _ _ hS0 (fun _ => ?_)
  clear hK K
  simp only [List.getElem_toArray, List.getElem_cons_zero, List.getElem_cons_succ, Act.put, List.setIfInBounds_toArray, List.set_cons_zero, List.set_cons_succ]
  refine wpAnyH_ready (rs := [44]) (by kernel_rfl) (by simp) ?_
  refine AllReadyH.cons rfl (fun K hK => ?_) AllReadyH.nil
  go_simp
  refine (lnRose_calls D.l D.o 0 D.c 0 (fun _ => 0) (fun _ => false) false _ (Dev.Li hS0.2.2.2.2.2.2.2.1)).mono ?_
  rintro e w' ⟨rfl, rfl⟩
  (try go_simp)
  refine hK.out _ _ hS0 (fun _ => ?_)
  clear hK K
  simp only [List.getElem_toArray, List.getElem_cons_zero, List.getElem_cons_succ, Act.put, List.setIfInBounds_toArray, List.set_cons_zero, List.set_cons_succ]
  refine wpAnyH_ready (rs := [49]) (by kernel_rfl) (by simp) ?_
  refine AllReadyH.cons rfl (fun K hK => ?_) AllReadyH.nil
  go_simp
  refine (dvTakenG hS0.2.2.2.2.2.2.2.1).mono ?_
  rintro e w' ⟨rfl, rfl⟩
  (try go_simp)
  refine hK.out _ _ hS0 (fun _ => ?_)
  clear hK K
  simp only [List.getElem_toArray, List.getElem_cons_zero, List.getElem_cons_succ, Act.put, List.setIfInBounds_toArray, List.set_cons_zero, List.set_cons_succ]
  refine wpAnyH_ready (rs := [54]) (by kernel_rfl) (by simp) ?_
  refine AllReadyH.cons rfl (fun K hK => ?_) AllReadyH.nil
  go_simp
  refine (dvTakenV hS0.2.2.2.2.2.2.2.1).mono ?_
  rintro e w' ⟨rfl, rfl⟩
  (try go_simp)
  refine hK.out _ _ hS0 (fun _ => ?_)
  clear hK K
  simp only [List.getElem_toArray, List.getElem_cons_zero, List.getElem_cons_succ, Act.put, List.setIfInBounds_toArray, List.set_cons_zero, List.set_cons_succ]
  refine wpAnyH_ready (rs := [59]) (by kernel_rfl) (by simp) ?_
  refine AllReadyH.cons rfl (fun K hK => ?_) AllReadyH.nil
  go_simp
  refine (dvTakenP hS0.2.2.2.2.2.2.2.1).mono ?_
  rintro e w' ⟨rfl, rfl⟩
  (try go_simp)
  refine hK.out _ _ hS0 (fun _ => ?_)
  clear hK K
  simp only [List.getElem_toArray, List.getElem_cons_zero, List.getElem_cons_succ, Act.put, List.setIfInBounds_toArray, List.set_cons_zero, List.set_cons_succ]
  refine wpAnyH_take (i := 60) (v := ?_) rfl (by kernel_rfl) (by kernel_rfl) (by kernel_rfl) (fun _ _ _ h => h) (Or.inl ⟨by rfl, ?_⟩) hS0 ?_
  rotate_left
  · (intro w hSw; (try dsimp only at hSw); go_simp; try with_reducible rfl)
  simp only [List.getElem_toArray, List.getElem_cons_zero, List.getElem_cons_succ, Act.put, List.setIfInBounds_toArray, List.set_cons_zero, List.set_cons_succ]
  refine wpAnyH_ready (rs := [61]) (by kernel_rfl) (by simp) ?_
  refine AllReadyH.cons rfl (fun K hK => ?_) AllReadyH.nil
  rw [if_pos (show Region.wanted _ _ = true from by rfl)]
  refine wp_store_row 41 _ _ rfl gz (stC h R C d L on u) rfl rfl 41 _ hz_0 (by kernel_rfl) rfl (by kernel_rfl) ?_
  refine hK.out _ _ ⟨(by first | exact below_setRow hS0.1 (by omega) _ | exact hS0.1.setRow_far (by omega) _ | exact (World.cell?_of_block (setRow_block _ _ _ _ (by first | omega | (dsimp only; omega)))).trans hS0.1 | exact hS0.1.only (only_setRow _ _ _) (fun k e => by (have e : k = _ := e); omega)), (by first | exact below_setRow hS0.2.1 (by omega) _ | exact hS0.2.1.setRow_far (by omega) _ | exact (World.cell?_of_block (setRow_block _ _ _ _ (by first | omega | (dsimp only; omega)))).trans hS0.2.1 | exact hS0.2.1.only (only_setRow _ _ _) (fun k e => by (have e : k = _ := e); omega)), (by first | exact below_setRow hS0.2.2.1 (by omega) _ | exact hS0.2.2.1.setRow_far (by omega) _ | exact (World.cell?_of_block (setRow_block _ _ _ _ (by first | omega | (dsimp only; omega)))).trans hS0.2.2.1 | exact hS0.2.2.1.only (only_setRow _ _ _) (fun k e => by (have e : k = _ := e); omega)), (by first | exact below_setRow hS0.2.2.2.1 (by omega) _ | exact hS0.2.2.2.1.setRow_far (by omega) _ | exact (World.cell?_of_block (setRow_block _ _ _ _ (by first | omega | (dsimp only; omega)))).trans hS0.2.2.2.1 | exact hS0.2.2.2.1.only (only_setRow _ _ _) (fun k e => by (have e : k = _ := e); omega)), (by first | exact below_setRow hS0.2.2.2.2.1 (by omega) _ | exact hS0.2.2.2.2.1.setRow_far (by omega) _ | exact (World.cell?_of_block (setRow_block _ _ _ _ (by first | omega | (dsimp only; omega)))).trans hS0.2.2.2.2.1 | exact hS0.2.2.2.2.1.only (only_setRow _ _ _) (fun k e => by (have e : k = _ := e); omega)), (by first | exact below_setRow hS0.2.2.2.2.2.1 (by omega) _ | exact hS0.2.2.2.2.2.1.setRow_far (by omega) _ | exact (World.cell?_of_block (setRow_block _ _ _ _ (by first | omega | (dsimp only; omega)))).trans hS0.2.2.2.2.2.1 | exact hS0.2.2.2.2.2.1.only (only_setRow _ _ _) (fun k e => by (have e : k = _ := e); omega)), (by first | exact below_setRow hS0.2.2.2.2.2.2.1 (by omega) _ | exact hS0.2.2.2.2.2.2.1.setRow_far (by omega) _ | exact (World.cell?_of_block (setRow_block _ _ _ _ (by first | omega | (dsimp only; omega)))).trans hS0.2.2.2.2.2.2.1 | exact hS0.2.2.2.2.2.2.1.only (only_setRow _ _ _) (fun k e => by (have e : k = _ := e); omega)), (by first | exact below_setRow hS0.2.2.2.2.2.2.2.1 (by omega) _ | exact hS0.2.2.2.2.2.2.2.1.setRow_far (by omega) _ | exact (World.cell?_of_block (setRow_block _ _ _ _ (by first | omega | (dsimp only; omega)))).trans hS0.2.2.2.2.2.2.2.1 | exact hS0.2.2.2.2.2.2.2.1.only (only_setRow _ _ _) (fun k e => by (have e : k = _ := e); omega)), (by first | exact below_setRow hS0.2.2.2.2.2.2.2.2 (by omega) _ | exact hS0.2.2.2.2.2.2.2.2.setRow_far (by omega) _ | exact (World.cell?_of_block (setRow_block _ _ _ _ (by first | omega | (dsimp only; omega)))).trans hS0.2.2.2.2.2.2.2.2 | exact hS0.2.2.2.2.2.2.2.2.only (only_setRow _ _ _) (fun k e => by (have e : k = _ := e); omega))⟩ (fun hS1 => ?_)
  clear hK K
  have hz_1 := hz_0.setRow (stC h R C d L on u)
  clear hS0
  generalize v0.setRow gz (stC h R C d L on u) = v1 at *
  simp only [List.getElem_toArray, List.getElem_cons_zero, List.getElem_cons_succ, Act.put, List.setIfInBounds_toArray, List.set_cons_zero, List.set_cons_succ]
  refine wpAnyH_done (by kernel_rfl) ?_ _
  have c0 := hS1.1
  have c1 := hS1.2.1
  have c2 := hS1.2.2.1
  have c3 := hS1.2.2.2.1
  have c4 := hS1.2.2.2.2.1
  have c5 := hS1.2.2.2.2.2.1
  have c6 := hS1.2.2.2.2.2.2.1
  have hD1 := hS1.2.2.2.2.2.2.2.1
  have hb1 := hS1.2.2.2.2.2.2.2.2
  clear hS1
  have hz := hz_1
  go_wp2_with fail
  exact bodyPost_ret (results_cell_row rfl _ _ gz 41 (stC h R C d L on u) (0, 0) _ rfl hz Try.underlying41 rfl (by kernel_rfl)) rfl ⟨rfl, hb1⟩
/-- What is chosen while a timer may ask. -/
def chT (u k : Bool) (d : Nat) : Nat := if u && !k && d / 4 % 2 == 0 then 3 else 0
theorem ch_timer : ∀ (d : Nat), d < 8 → ∀ (u k : Bool), chL (chF false false u false false k d) (kL 5) = chT u k d := by decide
theorem dvChoose (D : DevA) (R C d h : Nat) (on u k : Bool) (L now : Int) (w : World) (hd : d < 8) (hD : Dev w D R C on L d u now h) :
    Calls Try.prog 12 #[.pointer (some ⟨D.p, 0, none⟩), .bool k] w fun e w' => e = .returned (.int .u8 (chT u k d : Nat)) ∧ Below w.heap.size w w' := by
  have h1 := hdChoose_calls D.p D.t D.l D.bu D.a D.po D.vd D.vc 0 D.c 0 d D.o (fun _ => 0) (fun _ => false) false u k now w (by omega) hD.H hD.I hD.Li
  rw [show chL (chF (upE (fun _ => 0) (fun _ => false) 0 0) false u (upE (fun _ => 0) (fun _ => false) 2 0) (upE (fun _ => 0) (fun _ => false) 3 0) k d) (kL 5) = chT u k d from ch_timer d hd u k] at h1
  exact h1
end Go.Proofs.Ytggcnlcnmaaopaa
