/-
  The texts Co4 of the proof of TopSums, as one file (they are merged by a program).
-/
import Derived.Test.YtplobngbjpgcgaaGreatDoorA24
import Derived.Test.YtplobngbjpgcgaaGreatDoorA26
section
/-
  Package modes at a place of the zero page; a core: place.
-/
namespace Go.Proofs.YtplobngbjpgcgaaGreatDoor
set_option linter.unusedSimpArgs false
set_option linter.unusedVariables false
set_option maxRecDepth 10000
open Go.RowKit Pl
theorem ptZp_calls (s : Option Addr) (cap : Nat) (w : World) :
    Calls Tryz.prog 160 #[.int .u8 2, .slice s 1 cap, .int .u8 0] w fun e w' => e = .returned (.tuple #[.int .u16 0, .int .u16 0, .bool false]) ∧ w = w' := by
  have hw : Calls Tryz.prog 182 #[.int .u8 2, .slice s 1 cap] w fun e w' => e = .returned (.bool true) ∧ w = w' := whole_calls 2 1 cap s w (by omega) (by decide)
  go_enter Tryz.func160, Tryz.ntmps160
  go_wp2_with fail
  refine Cl.p hw ?_
  go_wp2_with fail
  go_ret3
  exact ⟨rfl, rfl⟩
theorem plZp_calls (s : Option Addr) (cap : Nat) (w : World) :
    Calls Tryz.prog 184 #[.int .u8 2, .slice s 1 cap] w fun e w' => e = .returned (.tuple #[.int .u8 2, .slice s 1 cap]) ∧ w = w' := by
  go_enter Tryz.func184, Tryz.ntmps184
  go_wp2_with fail
  go_ret2
  exact ⟨rfl, rfl⟩
theorem adZp_calls (g cap v : Nat) (w : World) (hv : v < 256) (hc : w.cell? ⟨g, 0, none⟩ = some (.int .u8 (v : Int))) :
    Calls Tryz.prog 162 #[.int .u8 2, .slice (some ⟨g, 0, none⟩) 1 cap, .int .u8 0, .int .u8 0, .int .u16 0] w fun e w' => e = .returned (.tuple #[.int .u16 ((8192 + v : Nat) : Int), .bool true]) ∧ w = w' := by
  have hw : Calls Tryz.prog 182 #[.int .u8 2, .slice (some ⟨g, 0, none⟩) 1 cap] w fun e w' => e = .returned (.bool true) ∧ w = w' := whole_calls 2 1 cap _ w (by omega) (by decide)
  have hz := fun W => mmZero_calls v W hv
  go_enter Tryz.func162, Tryz.ntmps162
  go_wp2_with fail
  refine Cl.p hw ?_
  go_wp2_with fail
  refine Cl.p (plZp_calls _ cap w) ?_
  go_wp2_with fail
  refine Cl.p (hz _) ?_
  go_wp2_with fail
  go_ret2
  exact ⟨rfl, rfl⟩
theorem Opd.low {base c : Nat} {w w' : World} {s : Value} {v : Nat} (h : Opd w base c s v) (hb : Below w.heap.size w w') : Opd w' base c s v := by
  obtain ⟨g, cap, cur, rfl, hB, h0, h1, h2⟩ := h
  exact ⟨g, cap, cur, rfl, Blk.below hB hb hB.lt, h0, h1, h2⟩
set_option maxRecDepth 100000 in
set_option maxHeartbeats 4000000 in
theorem coPlace_calls (D : DevA) (A : BusA) (base c a p pc n nr v : Nat) (s : Value) (M : Nat → Nat) (w : World) (hx : pc < 65536) (hn : n ≤ 700) (hv : v < 256) (hO : Opd w base c s v) (hS : Sys w D A base c a p pc n nr M) :
    Calls Tryz.prog 110 #[.pointer (some ⟨c, 0, none⟩), .int .u8 2, s] w fun e w' => e = .returned (.int .u16 ((8192 + v : Nat) : Int)) ∧ Sys w' D A base c a p pc (n + 1) nr M ∧ KeepC D base c w w' := by
  have hid := coIdle_calls D A base c a p pc n nr 1 M w hx hn (by omega) hS
  obtain ⟨g, cap, cur, rfl, hB, h0, h1, h2⟩ := hO
  have had := fun W (hc : W.cell? ⟨g, 0, none⟩ = some (.int .u8 (v : Int))) => adZp_calls g cap v W hv hc
  go_enter Tryz.func110, Tryz.ntmps110
  go_wp2_with fail
  refine hid.mono ?_
  clear hid
  rintro e w1 ⟨rfl, hS1, hK1⟩
  have hB1 := hK1.blk hB (fun hz => by have := hz.2; omega) (by decide) h2
  have c1 : w1.cell? ⟨c, 1, none⟩ = some (.int .u8 0) := Blk.cell hS1.C 1
  have c2 : w1.cell? ⟨c, 2, none⟩ = some (.int .u8 0) := Blk.cell hS1.C 2
  have cg : w1.cell? ⟨g, 0, none⟩ = some (.int .u8 (v : Int)) := (Blk.cell hB1 0).trans h0
  clear hB h0 hB1 hS
  go_wp2_with fail
  refine Cl.p (ptZp_calls _ cap w1) ?_
  go_wp2_with fail
  refine wp_region_held_drew (S := fun W => W.cell? ⟨c, 1, none⟩ = some (.int .u8 0) ∧ W.cell? ⟨c, 2, none⟩ = some (.int .u8 0) ∧ W.cell? ⟨g, 0, none⟩ = some (.int .u8 (v : Int))) (by kernel_rfl) ⟨(by first | exact c1.drew | exact c1 | exact Below.drew c1), (by first | exact c2.drew | exact c2 | exact Below.drew c2), (by first | exact cg.drew | exact cg | exact Below.drew cg)⟩ (fun hS0 => ?_)
  have hS1_0 : Sys w1.drew D A base c a p pc (n + 1) nr M := by first | exact hS1.drew | exact hS1
  have hK1_0 : KeepC D base c w w1.drew := by first | exact hK1.drew | exact hK1
  clear c1 c2 cg hS1 hK1
  change wpAnyH _ _ _ _ _ 19 #[false, false, false, false, false, false, false, false, false, false, false, false, false, false, false, false, false, false, false] _ _
  generalize w1.drew = v0 at *
  refine wpAnyH_take (i := 0) (v := ?_) rfl (by kernel_rfl) (by kernel_rfl) (by kernel_rfl) (fun _ _ _ h => h) (Or.inl ⟨by rfl, ?_⟩) hS0 ?_
  rotate_left
  · (intro w hSw; (try dsimp only at hSw); go_simp; try with_reducible rfl)
  simp only [List.getElem_toArray, List.getElem_cons_zero, List.getElem_cons_succ, Act.put, List.setIfInBounds_toArray, List.set_cons_zero, List.set_cons_succ]
  refine wpAnyH_take (i := 1) (v := ?_) rfl (by kernel_rfl) (by kernel_rfl) (by kernel_rfl) (fun _ _ _ h => h) (Or.inl ⟨by rfl, ?_⟩) hS0 ?_
  rotate_left
  · (intro w hSw; (try dsimp only at hSw); go_simp; try with_reducible rfl)
  simp only [List.getElem_toArray, List.getElem_cons_zero, List.getElem_cons_succ, Act.put, List.setIfInBounds_toArray, List.set_cons_zero, List.set_cons_succ]
  refine wpAnyH_take (i := 2) (v := ?_) rfl (by kernel_rfl) (by kernel_rfl) (by kernel_rfl) (fun _ _ _ h => h) (Or.inl ⟨by rfl, ?_⟩) hS0 ?_
  rotate_left
  · (intro w hSw; (try dsimp only at hSw); go_simp; try with_reducible rfl)
  simp only [List.getElem_toArray, List.getElem_cons_zero, List.getElem_cons_succ, Act.put, List.setIfInBounds_toArray, List.set_cons_zero, List.set_cons_succ]
  refine wpAnyH_take (i := 3) (v := ?_) rfl (by kernel_rfl) (by kernel_rfl) (by kernel_rfl) (fun _ _ _ h => h) (Or.inl ⟨by rfl, ?_⟩) hS0 ?_
  rotate_left
  · (intro w hSw; (try dsimp only at hSw); go_simp; try with_reducible rfl)
  simp only [List.getElem_toArray, List.getElem_cons_zero, List.getElem_cons_succ, Act.put, List.setIfInBounds_toArray, List.set_cons_zero, List.set_cons_succ]
  refine wpAnyH_take (i := 4) (v := ?_) rfl (by kernel_rfl) (by kernel_rfl) (by kernel_rfl) (fun _ _ _ h => h) (Or.inl ⟨by rfl, ?_⟩) hS0 ?_
  rotate_left
  · (intro w hSw; (try dsimp only at hSw); go_simp; try with_reducible rfl)
  simp only [List.getElem_toArray, List.getElem_cons_zero, List.getElem_cons_succ, Act.put, List.setIfInBounds_toArray, List.set_cons_zero, List.set_cons_succ]
  refine wpAnyH_take (i := 5) (v := ?_) rfl (by kernel_rfl) (by kernel_rfl) (by kernel_rfl) (fun _ _ _ h => h) (Or.inl ⟨by rfl, ?_⟩) hS0 ?_
  rotate_left
  · (intro w hSw; (try dsimp only at hSw); go_simp; try with_reducible rfl)
  simp only [List.getElem_toArray, List.getElem_cons_zero, List.getElem_cons_succ, Act.put, List.setIfInBounds_toArray, List.set_cons_zero, List.set_cons_succ]
  refine wpAnyH_take (i := 6) (v := ?_) rfl (by kernel_rfl) (by kernel_rfl) (by kernel_rfl) (fun _ _ _ h => h) (Or.inl ⟨by rfl, ?_⟩) hS0 ?_
  rotate_left
  · (intro w hSw; (try dsimp only at hSw); go_simp; try with_reducible rfl)
  simp only [List.getElem_toArray, List.getElem_cons_zero, List.getElem_cons_succ, Act.put, List.setIfInBounds_toArray, List.set_cons_zero, List.set_cons_succ]
  refine wpAnyH_take (i := 7) (v := ?_) rfl (by kernel_rfl) (by kernel_rfl) (by kernel_rfl) (fun _ _ _ h => h) (Or.inl ⟨by rfl, ?_⟩) hS0 ?_
  rotate_left
  · (intro w hSw; (try dsimp only at hSw); go_simp; try with_reducible rfl)
  simp only [List.getElem_toArray, List.getElem_cons_zero, List.getElem_cons_succ, Act.put, List.setIfInBounds_toArray, List.set_cons_zero, List.set_cons_succ]
  refine wpAnyH_take (i := 8) (v := ?_) rfl (by kernel_rfl) (by kernel_rfl) (by kernel_rfl) (fun _ _ _ h => h) (Or.inl ⟨by rfl, ?_⟩) hS0 ?_
  rotate_left
  · (intro w hSw; (try dsimp only at hSw); go_simp; try with_reducible rfl)
  simp only [List.getElem_toArray, List.getElem_cons_zero, List.getElem_cons_succ, Act.put, List.setIfInBounds_toArray, List.set_cons_zero, List.set_cons_succ]
  refine wpAnyH_take (i := 9) (v := ?_) rfl (by kernel_rfl) (by kernel_rfl) (by kernel_rfl) (fun _ _ _ h => h) (Or.inl ⟨by rfl, ?_⟩) hS0 ?_
  rotate_left
  · (intro w hSw; (try dsimp only at hSw); go_simp; try with_reducible rfl)
  simp only [List.getElem_toArray, List.getElem_cons_zero, List.getElem_cons_succ, Act.put, List.setIfInBounds_toArray, List.set_cons_zero, List.set_cons_succ]
  refine wpAnyH_take (i := 10) (v := ?_) rfl (by kernel_rfl) (by kernel_rfl) (by kernel_rfl) (fun _ _ _ h => h) (Or.inl ⟨by rfl, ?_⟩) hS0 ?_
  rotate_left
  · (intro w hSw; (try dsimp only at hSw); go_simp; try with_reducible rfl)
  simp only [List.getElem_toArray, List.getElem_cons_zero, List.getElem_cons_succ, Act.put, List.setIfInBounds_toArray, List.set_cons_zero, List.set_cons_succ]
  refine wpAnyH_take (i := 11) (v := ?_) rfl (by kernel_rfl) (by kernel_rfl) (by kernel_rfl) (fun _ _ _ h => h) (Or.inl ⟨by rfl, ?_⟩) hS0 ?_
  rotate_left
  · (intro w hSw; (try dsimp only at hSw); go_simp; try with_reducible rfl)
  simp only [List.getElem_toArray, List.getElem_cons_zero, List.getElem_cons_succ, Act.put, List.setIfInBounds_toArray, List.set_cons_zero, List.set_cons_succ]
  refine wpAnyH_take (i := 12) (v := ?_) rfl (by kernel_rfl) (by kernel_rfl) (by kernel_rfl) (fun _ _ _ h => h) (Or.inl ⟨by rfl, ?_⟩) hS0 ?_
  rotate_left
  · (intro w hSw; (try dsimp only at hSw); go_simp; try with_reducible rfl)
  simp only [List.getElem_toArray, List.getElem_cons_zero, List.getElem_cons_succ, Act.put, List.setIfInBounds_toArray, List.set_cons_zero, List.set_cons_succ]
  refine wpAnyH_ready (rs := [13]) (by kernel_rfl) (by simp) ?_
  refine AllReadyH.cons rfl (fun K hK => ?_) AllReadyH.nil
  go_simp
  refine (had _ hS0.2.2).mono ?_
  rintro e w' ⟨rfl, rfl⟩
  (try go_simp)
  refine hK.out _ _ hS0 (fun _ => ?_)
  clear hK K
  simp only [List.getElem_toArray, List.getElem_cons_zero, List.getElem_cons_succ, Act.put, List.setIfInBounds_toArray, List.set_cons_zero, List.set_cons_succ]
  refine wpAnyH_take (i := 14) (v := ?_) rfl (by kernel_rfl) (by kernel_rfl) (by kernel_rfl) (fun _ _ _ h => h) (Or.inl ⟨by rfl, ?_⟩) hS0 ?_
  rotate_left
  · (intro w hSw; (try dsimp only at hSw); go_simp; try with_reducible rfl)
  simp only [List.getElem_toArray, List.getElem_cons_zero, List.getElem_cons_succ, Act.put, List.setIfInBounds_toArray, List.set_cons_zero, List.set_cons_succ]
  refine wpAnyH_take (i := 15) (v := ?_) rfl (by kernel_rfl) (by kernel_rfl) (by kernel_rfl) (fun _ _ _ h => h) (Or.inl ⟨by rfl, ?_⟩) hS0 ?_
  rotate_left
  · (intro w hSw; (try dsimp only at hSw); go_simp; try with_reducible rfl)
  simp only [List.getElem_toArray, List.getElem_cons_zero, List.getElem_cons_succ, Act.put, List.setIfInBounds_toArray, List.set_cons_zero, List.set_cons_succ]
  refine wpAnyH_take (i := 16) (v := ?_) rfl (by kernel_rfl) (by kernel_rfl) (by kernel_rfl) (fun _ _ _ h => h) (Or.inl ⟨by rfl, ?_⟩) hS0 ?_
  rotate_left
  · (intro w hSw; (try dsimp only at hSw); go_simp; try with_reducible rfl)
  simp only [List.getElem_toArray, List.getElem_cons_zero, List.getElem_cons_succ, Act.put, List.setIfInBounds_toArray, List.set_cons_zero, List.set_cons_succ]
  refine wpAnyH_take (i := 17) (v := ?_) rfl (by kernel_rfl) (by kernel_rfl) (by kernel_rfl) (fun _ _ _ h => h) (Or.inl ⟨by rfl, ?_⟩) hS0 ?_
  rotate_left
  · (intro w hSw; (try dsimp only at hSw); go_simp; try with_reducible rfl)
  simp only [List.getElem_toArray, List.getElem_cons_zero, List.getElem_cons_succ, Act.put, List.setIfInBounds_toArray, List.set_cons_zero, List.set_cons_succ]
  refine wpAnyH_take (i := 18) (v := ?_) rfl (by kernel_rfl) (by kernel_rfl) (by kernel_rfl) (fun _ _ _ h => h) (Or.inl ⟨by rfl, ?_⟩) hS0 ?_
  rotate_left
  · (intro w hSw; (try dsimp only at hSw); go_simp; try with_reducible rfl)
  simp only [List.getElem_toArray, List.getElem_cons_zero, List.getElem_cons_succ, Act.put, List.setIfInBounds_toArray, List.set_cons_zero, List.set_cons_succ]
  refine wpAnyH_done (by kernel_rfl) ?_ _
  have c1 := hS0.1
  have c2 := hS0.2.1
  have cg := hS0.2.2
  clear hS0
  have hS1 := hS1_0
  have hK1 := hK1_0
  go_wp2_with fail
  go_ret
  exact ⟨rfl, hS1, hK1⟩
end Go.Proofs.YtplobngbjpgcgaaGreatDoor
end
