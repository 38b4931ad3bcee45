/-
  The texts Ram2 of the proof of TopSums, as one file (they are merged by a program).
-/
import Derived.Test.YtplobngbjpgcgaaGreatDoorA13
section
/-
  Package ram: New, place, Read, Write.
-/
namespace Go.Proofs.YtplobngbjpgcgaaGreatDoor
set_option linter.unusedSimpArgs false
set_option linter.unusedVariables false
set_option maxRecDepth 10000
open Go.RowKit Go.ChangeMaps Go.MapKept
/-- A Ram at h, its map at g. -/
def RamB (w : World) (h g n : Nat) (F : Nat → Int) : Prop := Blk w h 138 #[.map (some g)] ∧ RamM w g n F
section
variable {w w' : World} {h g n B : Nat} {F : Nat → Int}
theorem RamB.only {S : Nat → Prop} (p : RamB w h g n F) (ho : Only S w w') (hh : ¬ S h) (hg : ¬ S g) : RamB w' h g n F := ⟨p.1.only ho hh, p.2.only ho hg⟩
theorem RamB.below (p : RamB w h g n F) (hb : Below B w w') (h1 : h < B) (h2 : g < B) : RamB w' h g n F := ⟨p.1.below hb h1, p.2.below hb h2⟩
theorem RamB.low (p : RamB w h g n F) (hb : Below w.heap.size w w') : RamB w' h g n F := ⟨p.1.below hb p.1.lt, p.2.below hb p.2.lt⟩
theorem RamB.ne (p : RamB w h g n F) : h ≠ g := fun e => by
  obtain ⟨p1, D, ⟨es, clock, hb, _⟩, _⟩ := p
  subst e
  unfold Blk at p1
  rw [p1] at hb
  cases hb
end
theorem rmNew_calls (w : World) : Calls Tryz.prog 40 #[] w fun e w' => ∃ h g, e = .returned (.pointer (some ⟨h, 0, none⟩)) ∧ RamB w' h g 0 (fun _ => 0) ∧ w.heap.size ≤ h ∧ w.heap.size ≤ g ∧ Below w.heap.size w w' := by
  have hmm := @run_makeMap Tryz.prog
  have h1 := RamM.new w
  have hB : RamB ((w.alloc (.map #[] 0)).alloc (.cells #[.map (some w.heap.size)] 138)) (w.heap.size + 1) w.heap.size 0 (fun _ => 0) :=
    ⟨Blk.newAt (by simp), h1.below (Below.alloc (Below.refl _ _) (Nat.le_refl _) _) h1.lt⟩
  have hb : Below w.heap.size w ((w.alloc (.map #[] 0)).alloc (.cells #[.map (some w.heap.size)] 138)) := Bl.alloc (Bl.alloc (Below.refl _ _) _) _
  clear h1
  go_enter Tryz.func40, Tryz.ntmps40
  go_wp2_with fail
  go_ret
  exact ⟨w.heap.size + 1, w.heap.size, rfl, hB, by omega, by omega, hb⟩
theorem rmPlace_calls (a : Nat) (w : World) (ha : a < 65536) : Calls Tryz.prog 77 #[.int .u16 (a : Int)] w fun e w' => e = .returned (.tuple #[.int .u16 ((a % 8192 / 64 : Nat) : Int), .int .u16 ((a % 8192 % 64 : Nat) : Int)]) ∧ w = w' := by
  have h1 : (0 : Int) ≤ (a : Int) % 8192 := by omega
  have h2 : (a : Int) % 8192 ≤ 8191 := by omega
  have e1 : ((a % 8192 / 64 : Nat) : Int) = (a : Int) % 8192 / 64 := by omega
  have e2 : ((a % 8192 % 64 : Nat) : Int) = (a : Int) % 8192 % 64 := by omega
  rw [e1, e2]
  have HE : Hid (IntKind.u16.wrap (((a : Int) % 8192).tdiv 64) = (a : Int) % 8192 / 64) := by
    show IntKind.u16.wrap (((a : Int) % 8192).tdiv 64) = (a : Int) % 8192 / 64
    rw [Int.tdiv_eq_ediv_of_nonneg h1, IntKind.wrap_u16]
    omega
  clear e1 e2
  go_enter Tryz.func77, Tryz.ntmps77
  go_wp2_with fail
  go_ret2
  exact ⟨by rw [← HE.out]; rfl, rfl⟩
theorem rmRead_calls (h g n a : Nat) (F : Nat → Int) (w : World) (ha : a < 65536) (hR : RamB w h g n F) :
    Calls Tryz.prog 28 #[.pointer (some ⟨h, 0, none⟩), .int .u16 (a : Int)] w fun e w' => e = .returned (.int .u8 (F (a % 8192))) ∧ w = w' := by
  have hpl := rmPlace_calls a w ha
  obtain ⟨k, hk⟩ : ∃ k, a % 8192 / 64 = k := ⟨_, rfl⟩
  obtain ⟨i, hi⟩ : ∃ i, a % 8192 % 64 = i := ⟨_, rfl⟩
  have hk1 : k < 128 := by omega
  have hi1 : i < 64 := by omega
  have hp : a % 8192 = 64 * k + i := by omega
  rw [hk, hi] at hpl
  rw [hp]
  clear hp hk hi
  have c0 : w.cell? ⟨h, 0, none⟩ = some (.map (some g)) := hR.1.cell 0
  have hl := hR.2.look k hk1
  have hx : ∀ W : World, (Instr.index 135 (.agg (blkV F k)) (.int .u16 (i : Int))).run Tryz.prog W = .ok (.int .u8 (F (64 * k + i))) W := fun W =>
    run_index_row 135 5 64 Tryz.underlying135 (fun _ => by kernel_rfl) (fun _ => by simp [isAgg, run_underlying Tryz.underlying5]) _ .u16 i hi1 _ (arr_get 64 _ i hi1) W
  clear hR
  go_enter Tryz.func28, Tryz.ntmps28
  go_wp2_with fail
  refine Cl.p hpl ?_
  go_wp2_with fail
  go_ret
  exact ⟨rfl, rfl⟩
set_option maxRecDepth 100000 in
set_option maxHeartbeats 1000000 in
theorem rmWrite_calls (h g n a : Nat) (b : Int) (F : Nat → Int) (w : World) (ha : a < 65536) (hn : n < maxLen) (hR : RamB w h g n F) :
    Calls Tryz.prog 42 #[.pointer (some ⟨h, 0, none⟩), .int .u16 (a : Int), .int .u8 b] w fun e w' => e = .returned (.tuple #[]) ∧ RamB w' h g (n + 1) (updF F (a % 8192) b) ∧ Only (fun x => x = g) w w' := by
  have hpl := rmPlace_calls a w ha
  obtain ⟨k, hk⟩ : ∃ k, a % 8192 / 64 = k := ⟨_, rfl⟩
  obtain ⟨i, hi⟩ : ∃ i, a % 8192 % 64 = i := ⟨_, rfl⟩
  have hk1 : k < 128 := by omega
  have hi1 : i < 64 := by omega
  have hi2 : (i : Int) < 64 := by omega
  have hp : a % 8192 = 64 * k + i := by omega
  rw [hk, hi] at hpl
  rw [hp]
  clear hp hk hi
  have hne := hR.ne
  have c0 : w.cell? ⟨h, 0, none⟩ = some (.map (some g)) := hR.1.cell 0
  have hl := hR.2.look k hk1
  have hgl := hR.2.lt
  have hhl := hR.1.lt
  have hget : (blkV F k)[i]? = some (.int .u8 (F (64 * k + i))) := arr_get 64 _ i hi1
  have hz : Blk (w.alloc (.cells zero64 135)) w.heap.size 135 zero64 := Blk.new _ _ _
  have hX : Blk (w.alloc (.cells (blkV (updF F (64 * k + i) b) k) 135)) w.heap.size 135 (blkV (updF F (64 * k + i) b) k) := Blk.new _ _ _
  have hR1 : RamB (w.alloc (.cells (blkV (updF F (64 * k + i) b) k) 135)) h g n F := hR.low (Below.alloc (Below.refl _ _) (Nat.le_refl _) _)
  have ho1 : Only (fun x => x = g) w (w.alloc (.cells (blkV (updF F (64 * k + i) b) k) 135)) := (Only.refl _ _).alloc _
  rw [← updF_in F k i b hi1] at hR1 ho1
  have hX2 : Blk (w.alloc (.cells ((blkV F k).setIfInBounds i (.int .u8 b)) 135)) w.heap.size 135 (blkV (updF F (64 * k + i) b) k) := by
    rw [updF_in F k i b hi1]; exact hX
  have HX := hide hX2
  clear hX hX2
  have hcmp := fun W => run_eql_blk (updF F (64 * k + i) b) k W
  unfold zero64 at hcmp
  have HR := hide hR1
  have HO := hide ho1
  have c1 : (w.alloc (.cells ((blkV F k).setIfInBounds i (.int .u8 b)) 135)).cell? ⟨h, 0, none⟩ = some (.map (some g)) := hR1.1.cell 0
  clear hR1 ho1 hR
  by_cases h0 : zb (updF F (64 * k + i) b) k = true
  all_goals
    first | rw [h0] at hcmp | rw [Bool.eq_false_iff.2 h0] at hcmp
    have H0 := hide h0
    clear h0
    go_enter Tryz.func42, Tryz.ntmps42
    go_wp2_with fail
    refine Cl.p hpl ?_
    go_wp2_with (first
      | (refine wpList_store_row rfl 135 _ _ rfl w.heap.size (blkV F k) rfl rfl 135 _ hz (by kernel_rfl) rfl (by kernel_rfl) ?_; rw [setRow_new])
      | (refine wpList_load_row rfl 135 _ rfl w.heap.size rfl _ (blkV (updF F (64 * k + i) b) k) (0, 0) _ HX.out Tryz.underlying135 rfl (by kernel_rfl) ?_)
      | (at_delete; refine wpList_delete_ram rfl _ _ rfl k i b rfl rfl HR.out.2 hk1 hi1 H0.out ?_; intro w3 hM3 ho3))
  · have hR3 : RamB w3 h g n (updF F (64 * k + i) b) := ⟨HR.out.1.only ho3 hne, hM3⟩
    have ho := HO.out.trans ho3
    go_wp2_with fail
    exact bodyPost_ret (results_none rfl _ _ _) rfl ⟨rfl, ⟨hR3.1, hR3.2.mono (Nat.le_succ n)⟩, ho⟩
  · have hx := HX.out
    have hr := HR.out
    have ho := HO.out
    have hgs : g ≠ w.heap.size := by omega
    clear HX HR HO
    generalize w.alloc (.cells ((blkV F k).setIfInBounds i (.int .u8 b)) 135) = w1 at *
    generalize w.heap.size = gx at *
    have hm0 : RamM w1.drew g n F := hr.2
    have hrb := hr.1
    have ho0 : Only (fun x => x = g) w w1.drew := ho.drew
    clear hr ho c0 hl hz hcmp hpl hget
    refine wp_region_held_drew (S := fun W => W.cell? ⟨h, 0, none⟩ = some (.map (some g)) ∧ Blk W gx 135 (blkV (updF F (64 * k + i) b) k) ∧ Blk W h 138 #[.map (some g)]) (by kernel_rfl) ⟨(by first | exact c1.drew | exact c1 | exact Below.drew c1), (by first | exact hx.drew | exact hx | exact Below.drew hx), (by first | exact hrb.drew | exact hrb | exact Below.drew hrb)⟩ (fun hS0 => ?_)
    clear c1 hx hrb
    change wpAnyH _ _ _ _ _ 7 #[false, false, false, false, false, false, false] _ _
    generalize w1.drew = v0 at *
    refine wpAnyH_take (i := 0) (v := ?_) rfl (by kernel_rfl) (by kernel_rfl) (by kernel_rfl) (fun _ _ _ h => h) (Or.inl ⟨by rfl, ?_⟩) hS0 ?_
    rotate_left
    · (intro w hSw; (try dsimp only at hSw); go_simp; try with_reducible rfl)
    simp only [List.getElem_toArray, List.getElem_cons_zero, List.getElem_cons_succ, Act.put, List.setIfInBounds_toArray, List.set_cons_zero, List.set_cons_succ]
    refine wpAnyH_take (i := 1) (v := ?_) rfl (by kernel_rfl) (by kernel_rfl) (by kernel_rfl) (fun _ _ _ h => h) (Or.inl ⟨by rfl, ?_⟩) hS0 ?_
    rotate_left
    · (intro w hSw; (try dsimp only at hSw); go_simp; try with_reducible rfl)
    simp only [List.getElem_toArray, List.getElem_cons_zero, List.getElem_cons_succ, Act.put, List.setIfInBounds_toArray, List.set_cons_zero, List.set_cons_succ]
    refine wpAnyH_take (i := 2) (v := ?_) rfl (by kernel_rfl) (by kernel_rfl) (by kernel_rfl) (fun _ _ _ h => h) (Or.inl ⟨by rfl, ?_⟩) hS0 ?_
    rotate_left
    · (intro w hSw; (try dsimp only at hSw); go_simp; try with_reducible rfl)
    simp only [List.getElem_toArray, List.getElem_cons_zero, List.getElem_cons_succ, Act.put, List.setIfInBounds_toArray, List.set_cons_zero, List.set_cons_succ]
    refine wpAnyH_take (i := 3) (v := ?_) rfl (by kernel_rfl) (by kernel_rfl) (by kernel_rfl) (fun _ _ _ h => h) (Or.inl ⟨by rfl, ?_⟩) hS0 ?_
    rotate_left
    · (intro w hSw; (try dsimp only at hSw); go_simp; try with_reducible rfl)
    simp only [List.getElem_toArray, List.getElem_cons_zero, List.getElem_cons_succ, Act.put, List.setIfInBounds_toArray, List.set_cons_zero, List.set_cons_succ]
    refine wpAnyH_take (i := 4) (v := ?_) rfl (by kernel_rfl) (by kernel_rfl) (by kernel_rfl) (fun _ _ _ h => h) (Or.inl ⟨by rfl, ?_⟩) hS0 ?_
    rotate_left
    · (intro w hSw; (try dsimp only at hSw); go_simp; try with_reducible rfl)
    simp only [List.getElem_toArray, List.getElem_cons_zero, List.getElem_cons_succ, Act.put, List.setIfInBounds_toArray, List.set_cons_zero, List.set_cons_succ]
    refine wpAnyH_take (i := 5) (v := .agg (blkV (updF F (64 * k + i) b) k)) rfl (by kernel_rfl) (by kernel_rfl) (by kernel_rfl) (fun _ _ _ h => h) (YieldsIf.row_w (by rfl) 135 _ rfl gx rfl _ _ _ (fun _ h => h.2.1) Tryz.underlying135 rfl (by kernel_rfl)) hS0 ?_
    simp only [List.getElem_toArray, List.getElem_cons_zero, List.getElem_cons_succ, Act.put, List.setIfInBounds_toArray, List.set_cons_zero, List.set_cons_succ]
    refine wpAnyH_ready (rs := [6]) (by kernel_rfl) (by simp) ?_
    refine AllReadyH.cons rfl (fun K hK => ?_) AllReadyH.nil
    obtain ⟨v1, hrun, qm, qo⟩ := RamM.put hm0 k i b hk1 hi1 hn H0.out
    go_simp
    refine hK.out _ _ ⟨(World.cell?_of_block (qo.block h (cell_lt hS0.1) hne)).trans hS0.1, hS0.2.1.only qo (fun e => hgs e.symm), hS0.2.2.only qo hne⟩ (fun hS1 => ?_)
    clear hK K hS0
    simp only [List.getElem_toArray, List.getElem_cons_zero, List.getElem_cons_succ, Act.put, List.setIfInBounds_toArray, List.set_cons_zero, List.set_cons_succ]
    refine wpAnyH_done (by kernel_rfl) ?_ _
    have c1 := hS1.1
    have hx := hS1.2.1
    have hrb := hS1.2.2
    clear hS1
    go_wp2_with fail
    go_end0
    exact ⟨rfl, ⟨hrb, qm⟩, ho0.trans qo⟩
end Go.Proofs.YtplobngbjpgcgaaGreatDoor
end
