/-
  The texts Co5 of the proof of TopSums, as one file (they are merged by a program).
-/
import Derived.Test.YtplobngbjpgcgaaGreatDoorA27
import Derived.Test.YtplobngbjpgcgaaGreatDoorA23
section
/-
  A core: put, set, register, reads, two, sums.
-/
namespace Go.Proofs.YtplobngbjpgcgaaGreatDoor
set_option linter.unusedSimpArgs false
set_option linter.unusedVariables false
set_option maxRecDepth 10000
open Go.RowKit Pl
section
variable (D : DevA) (A : BusA) (base c a p pc n nr : Nat) (M : Nat → Nat) (w : World)
theorem coPut_calls (v : Nat) (hp : p < 256) (hv : v < 256) (hS : Sys w D A base c a p pc n nr M) :
    Calls Tryz.prog 105 #[.pointer (some ⟨c, 0, none⟩), .int .u8 (v : Int)] w fun e w' => e = .returned (.int .u8 (v : Int)) ∧ Sys w' D A base c a (fres p v) pc n nr M ∧ KeepC D base c w w' := by
  have c4 : w.cell? ⟨c, 4, none⟩ = some (.int .u8 (p : Int)) := Blk.cell hS.C 4
  have f4 : w.frozen? ⟨c, 4, none⟩ = false := Blk.frozen hS.C 4
  have hr := fun W => flResult_calls p v W hp hv
  have hK0 : KeepC D base c w w := KeepC.refl w
  go_enter Tryz.func105, Tryz.ntmps105
  go_wp2_with fail
  refine Cl.p (hr _) ?_
  go_wp2_with fail
  go_ret
  exact ⟨rfl, hS.set 4 _ rfl, hK0.set hS.pl.1 4 _⟩
theorem coSet_calls (v : Nat) (hS : Sys w D A base c a p pc n nr M) :
    Calls Tryz.prog 104 #[.pointer (some ⟨c, 0, none⟩), .int .u8 65, .int .u8 (v : Int)] w fun e w' => e = .returned (.tuple #[]) ∧ Sys w' D A base c v p pc n nr M ∧ KeepC D base c w w' := by
  have f0 : w.frozen? ⟨c, 0, none⟩ = false := Blk.frozen hS.C 0
  have c0 : w.cell? ⟨c, 0, none⟩ = some (.int .u8 (a : Int)) := Blk.cell hS.C 0
  have hK0 : KeepC D base c w w := KeepC.refl w
  go_enter Tryz.func104, Tryz.ntmps104
  go_wp2_with fail
  go_end0
  exact ⟨rfl, hS.set 0 _ rfl, hK0.set hS.pl.1 0 _⟩
theorem coRegister_calls (hS : Sys w D A base c a p pc n nr M) :
    Calls Tryz.prog 102 #[.pointer (some ⟨c, 0, none⟩), .int .u8 65] w fun e w' => e = .returned (.int .u8 (a : Int)) ∧ w = w' := by
  have c0 : w.cell? ⟨c, 0, none⟩ = some (.int .u8 (a : Int)) := Blk.cell hS.C 0
  go_enter Tryz.func102, Tryz.ntmps102
  go_wp2_with fail
  go_ret
  exact ⟨rfl, rfl⟩
end
theorem readsLda (w : World) : Calls Tryz.prog 109 #[(.string ⟨#[76, 68, 65]⟩)] w fun e w' => e = .returned (.bool true) ∧ w = w' := by
  go_enter Tryz.func109, Tryz.ntmps109
  go_wp2_with fail
  go_ret
  exact ⟨rfl, rfl⟩
theorem readsAdc (w : World) : Calls Tryz.prog 109 #[(.string ⟨#[65, 68, 67]⟩)] w fun e w' => e = .returned (.bool true) ∧ w = w' := by
  go_enter Tryz.func109, Tryz.ntmps109
  go_wp2_with fail
  go_ret
  exact ⟨rfl, rfl⟩
theorem readsSta (w : World) : Calls Tryz.prog 109 #[(.string ⟨#[83, 84, 65]⟩)] w fun e w' => e = .returned (.bool false) ∧ w = w' := by
  go_enter Tryz.func109, Tryz.ntmps109
  go_wp2_with fail
  go_ret
  exact ⟨rfl, rfl⟩
set_option maxRecDepth 100000 in
set_option maxHeartbeats 4000000 in
theorem coTwo_calls (D : DevA) (A : BusA) (base c a p pc n nr x v : Nat) (M : Nat → Nat) (w : World) (hx : x < 256) (hp : p < 256) (hv : v < 256) (hS : Sys w D A base c a p pc n nr M) :
    Calls Tryz.prog 164 #[.pointer (some ⟨c, 0, none⟩), (.string ⟨#[65, 68, 67]⟩), .int .u8 (x : Int), .int .u8 (v : Int)] w fun e w' => e = .returned (.tuple #[.int .u8 (addR x v p : Nat), .bool true]) ∧ Sys w' D A base c a (addP x v p) pc n nr M ∧ KeepC D base c w w' := by
  have c4 : w.cell? ⟨c, 4, none⟩ = some (.int .u8 (p : Int)) := Blk.cell hS.C 4
  have had := fun W => adAdd_calls x v p W hx hv hp
  unfold sumV at had
  have hK0 : KeepC D base c w w := KeepC.refl w
  go_enter Tryz.func164, Tryz.ntmps164
  go_wp2_with fail
  refine wp_region_held_drew (S := fun W => W.cell? ⟨c, 4, none⟩ = some (.int .u8 (p : Int))) (by kernel_rfl) (by first | exact c4.drew | exact c4 | exact Below.drew c4) (fun hS0 => ?_)
  have hS_0 : Sys w.drew D A base c a p pc n nr M := by first | exact hS.drew | exact hS
  have hK0_0 : KeepC D base c w w.drew := by first | exact hK0.drew | exact hK0
  clear c4 hS hK0
  change wpAnyH _ _ _ _ _ 8 #[false, false, false, false, false, false, false, false] _ _
  generalize w.drew = v0 at *
  refine wpAnyH_take (i := 0) (v := ?_) rfl (by kernel_rfl) (by kernel_rfl) (by kernel_rfl) (fun _ _ _ h => h) (Or.inl ⟨by rfl, ?_⟩) hS0 ?_
  rotate_left
  · (intro w hSw; (try dsimp only at hSw); go_simp; try with_reducible rfl)
  simp only [List.getElem_toArray, List.getElem_cons_zero, List.getElem_cons_succ, Act.put, List.setIfInBounds_toArray, List.set_cons_zero, List.set_cons_succ]
  refine wpAnyH_take (i := 1) (v := ?_) rfl (by kernel_rfl) (by kernel_rfl) (by kernel_rfl) (fun _ _ _ h => h) (Or.inl ⟨by rfl, ?_⟩) hS0 ?_
  rotate_left
  · (intro w hSw; (try dsimp only at hSw); go_simp; try with_reducible rfl)
  simp only [List.getElem_toArray, List.getElem_cons_zero, List.getElem_cons_succ, Act.put, List.setIfInBounds_toArray, List.set_cons_zero, List.set_cons_succ]
  refine wpAnyH_take (i := 2) (v := ?_) rfl (by kernel_rfl) (by kernel_rfl) (by kernel_rfl) (fun _ _ _ h => h) (Or.inl ⟨by rfl, ?_⟩) hS0 ?_
  rotate_left
  · (intro w hSw; (try dsimp only at hSw); go_simp; try with_reducible rfl)
  simp only [List.getElem_toArray, List.getElem_cons_zero, List.getElem_cons_succ, Act.put, List.setIfInBounds_toArray, List.set_cons_zero, List.set_cons_succ]
  refine wpAnyH_take (i := 3) (v := ?_) rfl (by kernel_rfl) (by kernel_rfl) (by kernel_rfl) (fun _ _ _ h => h) (Or.inl ⟨by rfl, ?_⟩) hS0 ?_
  rotate_left
  · (intro w hSw; (try dsimp only at hSw); go_simp; try with_reducible rfl)
  simp only [List.getElem_toArray, List.getElem_cons_zero, List.getElem_cons_succ, Act.put, List.setIfInBounds_toArray, List.set_cons_zero, List.set_cons_succ]
  refine wpAnyH_take (i := 4) (v := ?_) rfl (by kernel_rfl) (by kernel_rfl) (by kernel_rfl) (fun _ _ _ h => h) (Or.inl ⟨by rfl, ?_⟩) hS0 ?_
  rotate_left
  · (intro w hSw; (try dsimp only at hSw); go_simp; try with_reducible rfl)
  simp only [List.getElem_toArray, List.getElem_cons_zero, List.getElem_cons_succ, Act.put, List.setIfInBounds_toArray, List.set_cons_zero, List.set_cons_succ]
  refine wpAnyH_take (i := 5) (v := ?_) rfl (by kernel_rfl) (by kernel_rfl) (by kernel_rfl) (fun _ _ _ h => h) (Or.inl ⟨by rfl, ?_⟩) hS0 ?_
  rotate_left
  · (intro w hSw; (try dsimp only at hSw); go_simp; try with_reducible rfl)
  simp only [List.getElem_toArray, List.getElem_cons_zero, List.getElem_cons_succ, Act.put, List.setIfInBounds_toArray, List.set_cons_zero, List.set_cons_succ]
  refine wpAnyH_take (i := 6) (v := ?_) rfl (by kernel_rfl) (by kernel_rfl) (by kernel_rfl) (fun _ _ _ h => h) (Or.inl ⟨by rfl, ?_⟩) hS0 ?_
  rotate_left
  · (intro w hSw; (try dsimp only at hSw); go_simp; try with_reducible rfl)
  simp only [List.getElem_toArray, List.getElem_cons_zero, List.getElem_cons_succ, Act.put, List.setIfInBounds_toArray, List.set_cons_zero, List.set_cons_succ]
  refine wpAnyH_take (i := 7) (v := ?_) rfl (by kernel_rfl) (by kernel_rfl) (by kernel_rfl) (fun _ _ _ h => h) (Or.inl ⟨by rfl, ?_⟩) hS0 ?_
  rotate_left
  · (intro w hSw; (try dsimp only at hSw); go_simp; try with_reducible rfl)
  simp only [List.getElem_toArray, List.getElem_cons_zero, List.getElem_cons_succ, Act.put, List.setIfInBounds_toArray, List.set_cons_zero, List.set_cons_succ]
  refine wpAnyH_done (by kernel_rfl) ?_ _
  have c4 := hS0
  clear hS0
  have hS := hS_0
  have hK0 := hK0_0
  go_wp2_with fail
  refine Cl.p (had _) ?_
  have f4 : v0.frozen? ⟨c, 4, none⟩ = false := Blk.frozen hS.C 4
  go_wp2_with fail
  go_ret2
  exact ⟨rfl, hS.set 4 _ rfl, hK0.set hS.pl.1 4 _⟩
theorem sumsLda (D : DevA) (A : BusA) (base c a p pc n nr v : Nat) (t : Bool) (M : Nat → Nat) (w : World) (hS : Sys w D A base c a p pc n nr M) :
    Calls Tryz.prog 113 #[.pointer (some ⟨c, 0, none⟩), (.string ⟨#[76, 68, 65]⟩), .int .u8 (v : Int), .bool t] w fun e w' => e = .returned (.bool false) ∧ w = w' := by
  have c1 : w.cell? ⟨c, 1, none⟩ = some (.int .u8 0) := Blk.cell hS.C 1
  have hz : ∀ W, Calls Tryz.prog 163 #[.int .u8 0] W fun e w' => e = .returned (.int .u16 8192) ∧ W = w' := fun W => mmZero_calls 0 W (by omega)
  go_enter Tryz.func113, Tryz.ntmps113
  go_wp2_with fail
  refine Cl.p (hz _) ?_
  go_wp2_with fail
  go_ret
  exact ⟨rfl, rfl⟩
set_option maxRecDepth 100000 in
set_option maxHeartbeats 4000000 in
theorem sumsAdc (D : DevA) (A : BusA) (base c a p pc n nr v : Nat) (M : Nat → Nat) (w : World) (hx : pc < 65536) (hn : n ≤ 700) (ha : a < 256) (hp : p < 256) (hv : v < 256) (hS : Sys w D A base c a p pc n nr M) :
    Calls Tryz.prog 113 #[.pointer (some ⟨c, 0, none⟩), (.string ⟨#[65, 68, 67]⟩), .int .u8 (v : Int), .bool false] w fun e w' => e = .returned (.bool true) ∧ (∃ n', n' ≤ n + 1 ∧ Sys w' D A base c (addR a v p) (addP a v p) pc n' nr M) ∧ KeepC D base c w w' := by
  have c1 : w.cell? ⟨c, 1, none⟩ = some (.int .u8 0) := Blk.cell hS.C 1
  have c0 : w.cell? ⟨c, 0, none⟩ = some (.int .u8 (a : Int)) := Blk.cell hS.C 0
  have hz : ∀ W, Calls Tryz.prog 163 #[.int .u8 0] W fun e w' => e = .returned (.int .u16 8192) ∧ W = w' := fun W => mmZero_calls 0 W (by omega)
  have htw := coTwo_calls D A base c a p pc n nr a v M w ha hp hv hS
  have hR := addR_lt a v p
  have hP : addP a v p < 256 := addP_lt hp
  generalize addR a v p = R at *
  generalize addP a v p = P at *
  have his := fun W => flIs_calls P 8 W hP (by omega)
  go_enter Tryz.func113, Tryz.ntmps113
  go_wp2_with fail
  refine Cl.p (hz _) ?_
  clear hz
  go_wp2_with fail
  refine htw.mono ?_
  clear htw
  rintro e w1 ⟨rfl, hS1, hK1⟩
  have f0 : w1.frozen? ⟨c, 0, none⟩ = false := Blk.frozen hS1.C 0
  have d0 : w1.cell? ⟨c, 0, none⟩ = some (.int .u8 (a : Int)) := Blk.cell hS1.C 0
  have hS2 : Sys (w1.setCell ⟨c, 0, none⟩ (.int .u8 (R : Int))) D A base c R P pc n nr M := hS1.set 0 _ rfl
  have hK2 := hK1.set hS1.pl.1 0 (.int .u8 (R : Int))
  have d4 : (w1.setCell ⟨c, 0, none⟩ (.int .u8 (R : Int))).cell? ⟨c, 4, none⟩ = some (.int .u8 (P : Int)) := Blk.cell hS2.C 4
  have hid := coIdle_calls D A base c R P pc n nr 1 M _ hx hn (by omega) hS2
  clear hS hS1 hK1 c0 c1
  cases hd : fis P 8
  all_goals
    rw [hd] at his
    clear hd
    go_wp2_with fail
    refine Cl.p (his _) ?_
    go_wp2_with fail
  · go_ret
    exact ⟨rfl, ⟨n, by omega, hS2⟩, hK2⟩
  · refine hid.mono ?_
    clear hid
    rintro e w3 ⟨rfl, hS3, hK3⟩
    go_wp2_with fail
    go_ret
    exact ⟨rfl, ⟨n + 1, by omega, hS3⟩, hK2.trans hK3⟩
end Go.Proofs.YtplobngbjpgcgaaGreatDoor
end
