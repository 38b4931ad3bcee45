/-
  The texts Co9 of the proof of TopSums, as one file (they are merged by a program).
-/
import Derived.Test.YtplobngbjpgcgaaGreatDoorA30
section
/-
  A core: Step, at six bytes.
-/
namespace Go.Proofs.YtplobngbjpgcgaaGreatDoor
set_option linter.unusedSimpArgs false
set_option linter.unusedVariables false
set_option maxRecDepth 10000
open Go.RowKit Pl
set_option maxRecDepth 100000 in
set_option maxHeartbeats 8000000 in
theorem stepImp (D : DevA) (A : BusA) (base c a p pc n nr k : Nat) (Mx : Int) (M : Nat → Nat) (w : World) (hx : pc < 7999) (hn : n ≤ 680) (hp : p < 256) (ht : p.testBit 5 = false) (hk : k = 24 ∨ k = 216 ∨ k = 248) (hb : M pc = k) (hL : w.cell? ⟨0, 0, none⟩ = some (.int .i64 Mx)) (hLD : 0 < D.l) (hS : Sys w D A base c a p pc n nr M) :
    Calls Tryz.prog 6 #[.pointer (some ⟨c, 0, none⟩)] w fun e w' => (∃ v, e = .returned v) ∧ (∃ n', n' ≤ n + 2 ∧ Sys w' D A base c a (fset p (flB k) (flO k)) (pc + 1) n' nr M) ∧ KeepC D base c w w' := by
  have hbg := fun W => flBegun_calls p W hp
  rw [t_fis ht, t_fset hp ht] at hbg
  have hpl := hS.pl
  have hcw := hS.C.lt
  have c4 : w.cell? ⟨c, 4, none⟩ = some (.int .u8 (p : Int)) := Blk.cell hS.C 4
  have f4 : w.frozen? ⟨c, 4, none⟩ = false := Blk.frozen hS.C 4
  have hS0 : Sys (w.setCell ⟨c, 4, none⟩ (.int .u8 (p : Int))) D A base c a p pc n nr M := hS.set 4 _ rfl
  have hK0 : KeepC D base c w (w.setCell ⟨c, 4, none⟩ (.int .u8 (p : Int))) := (KeepC.refl w).set hpl.1 4 _
  have hnx := coNext_calls D A base c a p pc n nr 0 M _ (by omega) (by omega) hS0
  rw [hb] at hnx
  have hop : ∀ W, W.cell? ⟨0, 0, none⟩ = some (.int .i64 Mx) → Calls Tryz.prog 18 #[.int .u8 (k : Int)] W fun e w' => e = .returned (.agg (opV k)) ∧ Below W.heap.size W w' := fun W h => opOf_calls k Mx W (by omega) h
  obtain ⟨cy, hcy⟩ := op_imp k hk
  rw [hcy] at hop
  have him := fun W (h : Sys W D A base c a p (pc + 1) (n + 1) nr M) => coImplied_calls D A base c a p (pc + 1) (n + 1) nr k M W (by omega) (by omega) hp hk h
  generalize flN k = N at *
  generalize flB k = fB at *
  generalize flO k = fO at *
  clear hcy hk
  have hlow : ∀ W, KeepC D base c w W → W.cell? ⟨0, 0, none⟩ = some (.int .i64 Mx) := fun W h => (h.b.cell (p := ⟨0, 0, none⟩) hLD).trans hL
  clear hL hLD hS
  go_enter Tryz.func6, Tryz.ntmps6
  go_wp2_with fail
  refine Cl.p (hbg _) ?_
  clear hbg
  go_wp2_with fail
  refine hnx.mono ?_
  clear hnx
  rintro e w1 ⟨rfl, hS1, hK1⟩
  have hK01 := hK0.trans hK1
  clear hK0 hK1 hS0 c4 f4
  go_wp2_with fail
  refine (hop w1 (hlow w1 hK01)).mono ?_
  clear hop hlow
  rintro e w2 ⟨rfl, hb2⟩
  have hS2 := hS1.low hb2
  have hK2 := hK01.low2 hpl.2.1 hb2
  have hba : Below w2.heap.size w2 (w2.alloc (.cells #[.string N, .int .u8 0, .int .i64 1, .int .i64 cy] 62)) := Bl.alloc (Below.refl _ _) _
  have hB3 : Blk (w2.alloc (.cells #[.string N, .int .u8 0, .int .i64 1, .int .i64 cy] 62)) w2.heap.size 62 #[.string N, .int .u8 0, .int .i64 1, .int .i64 cy] := Blk.new _ _ _
  have hz : Blk (w2.alloc (.cells #[.string ⟨#[]⟩, .int .u8 0, .int .i64 0, .int .i64 0] 62)) w2.heap.size 62 #[.string ⟨#[]⟩, .int .u8 0, .int .i64 0, .int .i64 0] := Blk.new _ _ _
  have hS3 := hS2.low hba
  have hK3 := hK2.low2 hpl.2.1 hba
  have hge : base ≤ w2.heap.size := Nat.le_trans hpl.2.2.1 hK2.b.size
  have hne : w2.heap.size ≠ c := by have := hK2.b.size; omega
  clear hS1 hK01 hb2 hS2 hK2 hba
  go_wp2_with (refine wpList_store_row rfl 62 _ _ rfl w2.heap.size #[.string N, .int .u8 0, .int .i64 1, .int .i64 cy] rfl rfl 62 _ hz (by kernel_rfl) rfl (by kernel_rfl) ?_; rw [setRow_new])
  clear hz
  generalize w2.alloc (.cells #[.string N, .int .u8 0, .int .i64 1, .int .i64 cy] 62) = w3 at *
  generalize w2.heap.size = go at *
  have b0 : w3.cell? ⟨go, 0, none⟩ = some (.string N) := Blk.cell hB3 0
  have b1 : w3.cell? ⟨go, 1, none⟩ = some (.int .u8 0) := Blk.cell hB3 1
  go_wp2_with fail
  refine (him w3 hS3).mono ?_
  clear him b0 b1 hB3 hS3
  rintro e w9 ⟨rfl, hS9, hK9⟩
  have d16 : w9.cell? ⟨c, 16, none⟩ = some (.pointer (some ⟨A.b, 0, none⟩)) := Blk.cell hS9.C 16
  go_wp2_with fail
  obtain ⟨np9, V9, hB9, hq9, hr9⟩ := hS9.B
  refine Cl.p (bsTurn_calls _ hB9) ?_
  go_wp2_with fail
  refine Cl.p (bsFast_calls _ hB9) ?_
  have f15 : w9.frozen? ⟨c, 15, none⟩ = false := Blk.frozen hS9.C 15
  have d15 : w9.cell? ⟨c, 15, none⟩ = some (.bool false) := Blk.cell hS9.C 15
  clear hB9 hq9 hr9
  go_wp2_with fail
  go_ret
  exact ⟨⟨_, rfl⟩, ⟨n + 1 + 1, by omega, hS9.set 15 _ rfl⟩, (hK3.trans hK9).set hpl.1 15 _⟩
set_option maxRecDepth 100000 in
set_option maxHeartbeats 8000000 in
theorem stepLda (D : DevA) (A : BusA) (base c a p pc n nr v : Nat) (Mx : Int) (M : Nat → Nat) (w : World) (hx : pc < 7998) (hn : n ≤ 680) (hp : p < 256) (ht : p.testBit 5 = false) (hb : M pc = 165) (hv : M (pc + 1) = v) (hv2 : v < 256) (hM : M v < 256) (hL : w.cell? ⟨0, 0, none⟩ = some (.int .i64 Mx)) (hLD : 0 < D.l) (hS : Sys w D A base c a p pc n nr M) :
    Calls Tryz.prog 6 #[.pointer (some ⟨c, 0, none⟩)] w fun e w' => (∃ v, e = .returned v) ∧ (∃ n', n' ≤ n + 4 ∧ Sys w' D A base c (M v) (fres p (M v)) (pc + 2) n' nr M) ∧ KeepC D base c w w' := by
  have hbg := fun W => flBegun_calls p W hp
  rw [t_fis ht, t_fset hp ht] at hbg
  have hpl := hS.pl
  have hcw := hS.C.lt
  have c4 : w.cell? ⟨c, 4, none⟩ = some (.int .u8 (p : Int)) := Blk.cell hS.C 4
  have f4 : w.frozen? ⟨c, 4, none⟩ = false := Blk.frozen hS.C 4
  have hS0 : Sys (w.setCell ⟨c, 4, none⟩ (.int .u8 (p : Int))) D A base c a p pc n nr M := hS.set 4 _ rfl
  have hK0 : KeepC D base c w (w.setCell ⟨c, 4, none⟩ (.int .u8 (p : Int))) := (KeepC.refl w).set hpl.1 4 _
  have hnx := coNext_calls D A base c a p pc n nr 0 M _ (by omega) (by omega) hS0
  rw [hb] at hnx
  have hop : ∀ W, W.cell? ⟨0, 0, none⟩ = some (.int .i64 Mx) → Calls Tryz.prog 18 #[.int .u8 165] W fun e w' => e = .returned (.agg (opV 165)) ∧ Below W.heap.size W w' := fun W h => opOf_calls 165 Mx W (by omega) h
  obtain ⟨cy, hcy⟩ := op_lda
  rw [hcy] at hop
  clear hcy
  have hod := fun W (h : Sys W D A base c a p (pc + 1) (n + 1) nr M) => coOperands_calls D A base c a p (pc + 1) (n + 1) nr M W (by omega) (by omega) h
  rw [hv] at hod
  have hdo := fun s W (h1 : Opd W base c s v) (h2 : Sys W D A base c a p (pc + 1 + 1) (n + 1 + 1) nr M) => doLda D A base c a p (pc + 1 + 1) (n + 1 + 1) nr v cy false s M W (by omega) (by omega) hp hv2 hM h1 h2
  generalize M v = x at *
  have hlow : ∀ W, KeepC D base c w W → W.cell? ⟨0, 0, none⟩ = some (.int .i64 Mx) := fun W h => (h.b.cell (p := ⟨0, 0, none⟩) hLD).trans hL
  clear hL hLD hS hb hv
  go_enter Tryz.func6, Tryz.ntmps6
  go_wp2_with fail
  refine Cl.p (hbg _) ?_
  clear hbg
  go_wp2_with fail
  refine hnx.mono ?_
  clear hnx
  rintro e w1 ⟨rfl, hS1, hK1⟩
  have hK01 := hK0.trans hK1
  clear hK0 hK1 hS0 c4 f4
  go_wp2_with fail
  refine (hop w1 (hlow w1 hK01)).mono ?_
  clear hop hlow
  rintro e w2 ⟨rfl, hb2⟩
  have hS2 := hS1.low hb2
  have hK2 := hK01.low2 hpl.2.1 hb2
  have hba : Below w2.heap.size w2 (w2.alloc (.cells #[.string ⟨#[76, 68, 65]⟩, .int .u8 2, .int .i64 2, .int .i64 cy] 62)) := Bl.alloc (Below.refl _ _) _
  have hB3 : Blk (w2.alloc (.cells #[.string ⟨#[76, 68, 65]⟩, .int .u8 2, .int .i64 2, .int .i64 cy] 62)) w2.heap.size 62 #[.string ⟨#[76, 68, 65]⟩, .int .u8 2, .int .i64 2, .int .i64 cy] := Blk.new _ _ _
  have hz : Blk (w2.alloc (.cells #[.string ⟨#[]⟩, .int .u8 0, .int .i64 0, .int .i64 0] 62)) w2.heap.size 62 #[.string ⟨#[]⟩, .int .u8 0, .int .i64 0, .int .i64 0] := Blk.new _ _ _
  have hS3 := hS2.low hba
  have hK3 := hK2.low2 hpl.2.1 hba
  have hge : base ≤ w2.heap.size := Nat.le_trans hpl.2.2.1 hK2.b.size
  have hne : w2.heap.size ≠ c := by have := hK2.b.size; omega
  clear hS1 hK01 hb2 hS2 hK2 hba
  go_wp2_with (refine wpList_store_row rfl 62 _ _ rfl w2.heap.size #[.string ⟨#[76, 68, 65]⟩, .int .u8 2, .int .i64 2, .int .i64 cy] rfl rfl 62 _ hz (by kernel_rfl) rfl (by kernel_rfl) ?_; rw [setRow_new])
  clear hz
  generalize w2.alloc (.cells #[.string ⟨#[76, 68, 65]⟩, .int .u8 2, .int .i64 2, .int .i64 cy] 62) = w3 at *
  generalize w2.heap.size = go at *
  have b0 : w3.cell? ⟨go, 0, none⟩ = some (.string ⟨#[76, 68, 65]⟩) := Blk.cell hB3 0
  have b1 : w3.cell? ⟨go, 1, none⟩ = some (.int .u8 2) := Blk.cell hB3 1
  go_wp2_with fail
  have b2 : w3.cell? ⟨go, 2, none⟩ = some (.int .i64 2) := Blk.cell hB3 2
  clear b0 b1
  refine wp_region_held_drew (S := fun W => W.cell? ⟨go, 2, none⟩ = some (.int .i64 2) ∧ Blk W go 62 #[.string ⟨#[76, 68, 65]⟩, .int .u8 2, .int .i64 2, .int .i64 cy]) (by kernel_rfl) ⟨(by first | exact b2.drew | exact b2 | exact Below.drew b2), (by first | exact hB3.drew | exact hB3 | exact Below.drew hB3)⟩ (fun hS0 => ?_)
  have hS3_0 : Sys w3.drew D A base c a p (pc + 1) (n + 1) nr M := by first | exact hS3.drew | exact hS3
  have hK3_0 : KeepC D base c w w3.drew := by first | exact hK3.drew | exact hK3
  clear b2 hB3 hS3 hK3
  change wpAnyH _ _ _ _ _ 9 #[false, false, false, false, false, false, false, false, false] _ _
  generalize w3.drew = v0 at *
  refine wpAnyH_take (i := 0) (v := ?_) rfl (by kernel_rfl) (by kernel_rfl) (by kernel_rfl) (fun _ _ _ h => h) (Or.inl ⟨by rfl, ?_⟩) hS0 ?_
  rotate_left
  · (intro w hSw; (try dsimp only at hSw); go_simp; try with_reducible rfl)
  simp only [List.getElem_toArray, List.getElem_cons_zero, List.getElem_cons_succ, Act.put, List.setIfInBounds_toArray, List.set_cons_zero, List.set_cons_succ]
  refine wpAnyH_take (i := 1) (v := .agg #[.string ⟨#[76, 68, 65]⟩, .int .u8 2, .int .i64 2, .int .i64 cy]) rfl (by kernel_rfl) (by kernel_rfl) (by kernel_rfl) (fun _ _ _ h => h) (YieldsIf.row_w (by rfl) 62 _ rfl go rfl _ _ _ (fun _ h => h.2) Tryz.underlying62 rfl (by kernel_rfl)) hS0 ?_
  simp only [List.getElem_toArray, List.getElem_cons_zero, List.getElem_cons_succ, Act.put, List.setIfInBounds_toArray, List.set_cons_zero, List.set_cons_succ]
  refine wpAnyH_take (i := 2) (v := ?_) rfl (by kernel_rfl) (by kernel_rfl) (by kernel_rfl) (fun _ _ _ h => h) (Or.inl ⟨by rfl, ?_⟩) hS0 ?_
  rotate_left
  · (intro w hSw; (try dsimp only at hSw); go_simp; try with_reducible rfl)
  simp only [List.getElem_toArray, List.getElem_cons_zero, List.getElem_cons_succ, Act.put, List.setIfInBounds_toArray, List.set_cons_zero, List.set_cons_succ]
  refine wpAnyH_take (i := 3) (v := ?_) rfl (by kernel_rfl) (by kernel_rfl) (by kernel_rfl) (fun _ _ _ h => h) (Or.inl ⟨by rfl, ?_⟩) hS0 ?_
  rotate_left
  · (intro w hSw; (try dsimp only at hSw); go_simp; try with_reducible rfl)
  simp only [List.getElem_toArray, List.getElem_cons_zero, List.getElem_cons_succ, Act.put, List.setIfInBounds_toArray, List.set_cons_zero, List.set_cons_succ]
  refine wpAnyH_take (i := 4) (v := ?_) rfl (by kernel_rfl) (by kernel_rfl) (by kernel_rfl) (fun _ _ _ h => h) (Or.inl ⟨by rfl, ?_⟩) hS0 ?_
  rotate_left
  · (intro w hSw; (try dsimp only at hSw); go_simp; try with_reducible rfl)
  simp only [List.getElem_toArray, List.getElem_cons_zero, List.getElem_cons_succ, Act.put, List.setIfInBounds_toArray, List.set_cons_zero, List.set_cons_succ]
  refine wpAnyH_take (i := 5) (v := ?_) rfl (by kernel_rfl) (by kernel_rfl) (by kernel_rfl) (fun _ _ _ h => h) (Or.inl ⟨by rfl, ?_⟩) hS0 ?_
  rotate_left
  · (intro w hSw; (try dsimp only at hSw); go_simp; try with_reducible rfl)
  simp only [List.getElem_toArray, List.getElem_cons_zero, List.getElem_cons_succ, Act.put, List.setIfInBounds_toArray, List.set_cons_zero, List.set_cons_succ]
  refine wpAnyH_take (i := 7) (v := ?_) rfl (by kernel_rfl) (by kernel_rfl) (by kernel_rfl) (fun _ _ _ h => h) (Or.inl ⟨by rfl, ?_⟩) hS0 ?_
  rotate_left
  · (intro w hSw; (try dsimp only at hSw); go_simp; try with_reducible rfl)
  simp only [List.getElem_toArray, List.getElem_cons_zero, List.getElem_cons_succ, Act.put, List.setIfInBounds_toArray, List.set_cons_zero, List.set_cons_succ]
  refine wpAnyH_ready (rs := [6]) (by kernel_rfl) (by simp) ?_
  refine AllReadyH.cons rfl (fun K hK => ?_) AllReadyH.nil
  go_simp
  refine (hod _ hS3_0).mono ?_
  rintro e v1 ⟨s, rfl, q0, q1, q2⟩
  have hBN := KeepC.box q2 hS0.2 hge (by decide) hne
  have hKN := KeepC.trans hK3_0 q2
  (try go_simp)
  refine hK.out _ _ ⟨Blk.cell hBN 2, hBN⟩ (fun hS1 => ?_)
  clear hK K hS0
  simp only [List.getElem_toArray, List.getElem_cons_zero, List.getElem_cons_succ, Act.put, List.setIfInBounds_toArray, List.set_cons_zero, List.set_cons_succ]
  refine wpAnyH_ready (rs := [8]) (by kernel_rfl) (by simp) ?_
  refine AllReadyH.cons rfl (fun K hK => ?_) AllReadyH.nil
  go_simp
  refine (hdo s _ q0 q1).mono ?_
  rintro e v2 ⟨rfl, r1, r2⟩
  have hBR := KeepC.box r2 hBN hge (by decide) hne
  have hKR := KeepC.trans hKN r2
  (try go_simp)
  refine hK.out _ _ ⟨Blk.cell hBR 2, hBR⟩ (fun hS2 => ?_)
  clear hK K hS1
  simp only [List.getElem_toArray, List.getElem_cons_zero, List.getElem_cons_succ, Act.put, List.setIfInBounds_toArray, List.set_cons_zero, List.set_cons_succ]
  refine wpAnyH_done (by kernel_rfl) ?_ _
  have b2 := hS2.1
  have hB3 := hS2.2
  clear hS2
  have hS9 := r1
  clear b2 hB3 hod hdo
  have d16 : v2.cell? ⟨c, 16, none⟩ = some (.pointer (some ⟨A.b, 0, none⟩)) := Blk.cell hS9.C 16
  go_wp2_with fail
  obtain ⟨np9, V9, hB9, hq9, hr9⟩ := hS9.B
  refine Cl.p (bsTurn_calls _ hB9) ?_
  go_wp2_with fail
  refine Cl.p (bsFast_calls _ hB9) ?_
  have f15 : v2.frozen? ⟨c, 15, none⟩ = false := Blk.frozen hS9.C 15
  have d15 : v2.cell? ⟨c, 15, none⟩ = some (.bool false) := Blk.cell hS9.C 15
  clear hB9 hq9 hr9
  go_wp2_with fail
  go_ret
  exact ⟨⟨_, rfl⟩, ⟨n + 1 + 1 + 2, by omega, hS9.set 15 _ rfl⟩, hKR.set hpl.1 15 _⟩
set_option maxRecDepth 100000 in
set_option maxHeartbeats 8000000 in
theorem stepAdc (D : DevA) (A : BusA) (base c a p pc n nr v : Nat) (Mx : Int) (M : Nat → Nat) (w : World) (hx : pc < 7998) (hn : n ≤ 680) (ha : a < 256) (hp : p < 256) (ht : p.testBit 5 = false) (hb : M pc = 101) (hv : M (pc + 1) = v) (hv2 : v < 256) (hM : M v < 256) (hL : w.cell? ⟨0, 0, none⟩ = some (.int .i64 Mx)) (hLD : 0 < D.l) (hS : Sys w D A base c a p pc n nr M) :
    Calls Tryz.prog 6 #[.pointer (some ⟨c, 0, none⟩)] w fun e w' => (∃ v, e = .returned v) ∧ (∃ n', n' ≤ n + 5 ∧ Sys w' D A base c (addR a (M v) p) (addP a (M v) p) (pc + 2) n' nr M) ∧ KeepC D base c w w' := by
  have hbg := fun W => flBegun_calls p W hp
  rw [t_fis ht, t_fset hp ht] at hbg
  have hpl := hS.pl
  have hcw := hS.C.lt
  have c4 : w.cell? ⟨c, 4, none⟩ = some (.int .u8 (p : Int)) := Blk.cell hS.C 4
  have f4 : w.frozen? ⟨c, 4, none⟩ = false := Blk.frozen hS.C 4
  have hS0 : Sys (w.setCell ⟨c, 4, none⟩ (.int .u8 (p : Int))) D A base c a p pc n nr M := hS.set 4 _ rfl
  have hK0 : KeepC D base c w (w.setCell ⟨c, 4, none⟩ (.int .u8 (p : Int))) := (KeepC.refl w).set hpl.1 4 _
  have hnx := coNext_calls D A base c a p pc n nr 0 M _ (by omega) (by omega) hS0
  rw [hb] at hnx
  have hop : ∀ W, W.cell? ⟨0, 0, none⟩ = some (.int .i64 Mx) → Calls Tryz.prog 18 #[.int .u8 101] W fun e w' => e = .returned (.agg (opV 101)) ∧ Below W.heap.size W w' := fun W h => opOf_calls 101 Mx W (by omega) h
  obtain ⟨cy, hcy⟩ := op_adc
  rw [hcy] at hop
  clear hcy
  have hod := fun W (h : Sys W D A base c a p (pc + 1) (n + 1) nr M) => coOperands_calls D A base c a p (pc + 1) (n + 1) nr M W (by omega) (by omega) h
  rw [hv] at hod
  have hdo := fun s W (h1 : Opd W base c s v) (h2 : Sys W D A base c a p (pc + 1 + 1) (n + 1 + 1) nr M) => doAdc D A base c a p (pc + 1 + 1) (n + 1 + 1) nr v cy s M W (by omega) (by omega) ha hp hv2 hM h1 h2
  generalize M v = x at *
  generalize addR a x p = R at *
  generalize addP a x p = P at *
  have hlow : ∀ W, KeepC D base c w W → W.cell? ⟨0, 0, none⟩ = some (.int .i64 Mx) := fun W h => (h.b.cell (p := ⟨0, 0, none⟩) hLD).trans hL
  clear hL hLD hS hb hv
  go_enter Tryz.func6, Tryz.ntmps6
  go_wp2_with fail
  refine Cl.p (hbg _) ?_
  clear hbg
  go_wp2_with fail
  refine hnx.mono ?_
  clear hnx
  rintro e w1 ⟨rfl, hS1, hK1⟩
  have hK01 := hK0.trans hK1
  clear hK0 hK1 hS0 c4 f4
  go_wp2_with fail
  refine (hop w1 (hlow w1 hK01)).mono ?_
  clear hop hlow
  rintro e w2 ⟨rfl, hb2⟩
  have hS2 := hS1.low hb2
  have hK2 := hK01.low2 hpl.2.1 hb2
  have hba : Below w2.heap.size w2 (w2.alloc (.cells #[.string ⟨#[65, 68, 67]⟩, .int .u8 2, .int .i64 2, .int .i64 cy] 62)) := Bl.alloc (Below.refl _ _) _
  have hB3 : Blk (w2.alloc (.cells #[.string ⟨#[65, 68, 67]⟩, .int .u8 2, .int .i64 2, .int .i64 cy] 62)) w2.heap.size 62 #[.string ⟨#[65, 68, 67]⟩, .int .u8 2, .int .i64 2, .int .i64 cy] := Blk.new _ _ _
  have hz : Blk (w2.alloc (.cells #[.string ⟨#[]⟩, .int .u8 0, .int .i64 0, .int .i64 0] 62)) w2.heap.size 62 #[.string ⟨#[]⟩, .int .u8 0, .int .i64 0, .int .i64 0] := Blk.new _ _ _
  have hS3 := hS2.low hba
  have hK3 := hK2.low2 hpl.2.1 hba
  have hge : base ≤ w2.heap.size := Nat.le_trans hpl.2.2.1 hK2.b.size
  have hne : w2.heap.size ≠ c := by have := hK2.b.size; omega
  clear hS1 hK01 hb2 hS2 hK2 hba
  go_wp2_with (refine wpList_store_row rfl 62 _ _ rfl w2.heap.size #[.string ⟨#[65, 68, 67]⟩, .int .u8 2, .int .i64 2, .int .i64 cy] rfl rfl 62 _ hz (by kernel_rfl) rfl (by kernel_rfl) ?_; rw [setRow_new])
  clear hz
  generalize w2.alloc (.cells #[.string ⟨#[65, 68, 67]⟩, .int .u8 2, .int .i64 2, .int .i64 cy] 62) = w3 at *
  generalize w2.heap.size = go at *
  have b0 : w3.cell? ⟨go, 0, none⟩ = some (.string ⟨#[65, 68, 67]⟩) := Blk.cell hB3 0
  have b1 : w3.cell? ⟨go, 1, none⟩ = some (.int .u8 2) := Blk.cell hB3 1
  go_wp2_with fail
  have b2 : w3.cell? ⟨go, 2, none⟩ = some (.int .i64 2) := Blk.cell hB3 2
  clear b0 b1
  refine wp_region_held_drew (S := fun W => W.cell? ⟨go, 2, none⟩ = some (.int .i64 2) ∧ Blk W go 62 #[.string ⟨#[65, 68, 67]⟩, .int .u8 2, .int .i64 2, .int .i64 cy]) (by kernel_rfl) ⟨(by first | exact b2.drew | exact b2 | exact Below.drew b2), (by first | exact hB3.drew | exact hB3 | exact Below.drew hB3)⟩ (fun hS0 => ?_)
  have hS3_0 : Sys w3.drew D A base c a p (pc + 1) (n + 1) nr M := by first | exact hS3.drew | exact hS3
  have hK3_0 : KeepC D base c w w3.drew := by first | exact hK3.drew | exact hK3
  clear b2 hB3 hS3 hK3
  change wpAnyH _ _ _ _ _ 9 #[false, false, false, false, false, false, false, false, false] _ _
  generalize w3.drew = v0 at *
  refine wpAnyH_take (i := 0) (v := ?_) rfl (by kernel_rfl) (by kernel_rfl) (by kernel_rfl) (fun _ _ _ h => h) (Or.inl ⟨by rfl, ?_⟩) hS0 ?_
  rotate_left
  · (intro w hSw; (try dsimp only at hSw); go_simp; try with_reducible rfl)
  simp only [List.getElem_toArray, List.getElem_cons_zero, List.getElem_cons_succ, Act.put, List.setIfInBounds_toArray, List.set_cons_zero, List.set_cons_succ]
  refine wpAnyH_take (i := 1) (v := .agg #[.string ⟨#[65, 68, 67]⟩, .int .u8 2, .int .i64 2, .int .i64 cy]) rfl (by kernel_rfl) (by kernel_rfl) (by kernel_rfl) (fun _ _ _ h => h) (YieldsIf.row_w (by rfl) 62 _ rfl go rfl _ _ _ (fun _ h => h.2) Tryz.underlying62 rfl (by kernel_rfl)) hS0 ?_
  simp only [List.getElem_toArray, List.getElem_cons_zero, List.getElem_cons_succ, Act.put, List.setIfInBounds_toArray, List.set_cons_zero, List.set_cons_succ]
  refine wpAnyH_take (i := 2) (v := ?_) rfl (by kernel_rfl) (by kernel_rfl) (by kernel_rfl) (fun _ _ _ h => h) (Or.inl ⟨by rfl, ?_⟩) hS0 ?_
  rotate_left
  · (intro w hSw; (try dsimp only at hSw); go_simp; try with_reducible rfl)
  simp only [List.getElem_toArray, List.getElem_cons_zero, List.getElem_cons_succ, Act.put, List.setIfInBounds_toArray, List.set_cons_zero, List.set_cons_succ]
  refine wpAnyH_take (i := 3) (v := ?_) rfl (by kernel_rfl) (by kernel_rfl) (by kernel_rfl) (fun _ _ _ h => h) (Or.inl ⟨by rfl, ?_⟩) hS0 ?_
  rotate_left
  · (intro w hSw; (try dsimp only at hSw); go_simp; try with_reducible rfl)
  simp only [List.getElem_toArray, List.getElem_cons_zero, List.getElem_cons_succ, Act.put, List.setIfInBounds_toArray, List.set_cons_zero, List.set_cons_succ]
  refine wpAnyH_take (i := 4) (v := ?_) rfl (by kernel_rfl) (by kernel_rfl) (by kernel_rfl) (fun _ _ _ h => h) (Or.inl ⟨by rfl, ?_⟩) hS0 ?_
  rotate_left
  · (intro w hSw; (try dsimp only at hSw); go_simp; try with_reducible rfl)
  simp only [List.getElem_toArray, List.getElem_cons_zero, List.getElem_cons_succ, Act.put, List.setIfInBounds_toArray, List.set_cons_zero, List.set_cons_succ]
  refine wpAnyH_take (i := 5) (v := ?_) rfl (by kernel_rfl) (by kernel_rfl) (by kernel_rfl) (fun _ _ _ h => h) (Or.inl ⟨by rfl, ?_⟩) hS0 ?_
  rotate_left
  · (intro w hSw; (try dsimp only at hSw); go_simp; try with_reducible rfl)
  simp only [List.getElem_toArray, List.getElem_cons_zero, List.getElem_cons_succ, Act.put, List.setIfInBounds_toArray, List.set_cons_zero, List.set_cons_succ]
  refine wpAnyH_take (i := 7) (v := ?_) rfl (by kernel_rfl) (by kernel_rfl) (by kernel_rfl) (fun _ _ _ h => h) (Or.inl ⟨by rfl, ?_⟩) hS0 ?_
  rotate_left
  · (intro w hSw; (try dsimp only at hSw); go_simp; try with_reducible rfl)
  simp only [List.getElem_toArray, List.getElem_cons_zero, List.getElem_cons_succ, Act.put, List.setIfInBounds_toArray, List.set_cons_zero, List.set_cons_succ]
  refine wpAnyH_ready (rs := [6]) (by kernel_rfl) (by simp) ?_
  refine AllReadyH.cons rfl (fun K hK => ?_) AllReadyH.nil
  go_simp
  refine (hod _ hS3_0).mono ?_
  rintro e v1 ⟨s, rfl, q0, q1, q2⟩
  have hBN := KeepC.box q2 hS0.2 hge (by decide) hne
  have hKN := KeepC.trans hK3_0 q2
  (try go_simp)
  refine hK.out _ _ ⟨Blk.cell hBN 2, hBN⟩ (fun hS1 => ?_)
  clear hK K hS0
  simp only [List.getElem_toArray, List.getElem_cons_zero, List.getElem_cons_succ, Act.put, List.setIfInBounds_toArray, List.set_cons_zero, List.set_cons_succ]
  refine wpAnyH_ready (rs := [8]) (by kernel_rfl) (by simp) ?_
  refine AllReadyH.cons rfl (fun K hK => ?_) AllReadyH.nil
  go_simp
  refine (hdo s _ q0 q1).mono ?_
  rintro e v2 ⟨rfl, ⟨n', hn', r1⟩, r2⟩
  have hBR := KeepC.box r2 hBN hge (by decide) hne
  have hKR := KeepC.trans hKN r2
  (try go_simp)
  refine hK.out _ _ ⟨Blk.cell hBR 2, hBR⟩ (fun hS2 => ?_)
  clear hK K hS1
  simp only [List.getElem_toArray, List.getElem_cons_zero, List.getElem_cons_succ, Act.put, List.setIfInBounds_toArray, List.set_cons_zero, List.set_cons_succ]
  refine wpAnyH_done (by kernel_rfl) ?_ _
  have b2 := hS2.1
  have hB3 := hS2.2
  clear hS2
  have hS9 := r1
  clear b2 hB3 hod hdo
  have d16 : v2.cell? ⟨c, 16, none⟩ = some (.pointer (some ⟨A.b, 0, none⟩)) := Blk.cell hS9.C 16
  go_wp2_with fail
  obtain ⟨np9, V9, hB9, hq9, hr9⟩ := hS9.B
  refine Cl.p (bsTurn_calls _ hB9) ?_
  go_wp2_with fail
  refine Cl.p (bsFast_calls _ hB9) ?_
  have f15 : v2.frozen? ⟨c, 15, none⟩ = false := Blk.frozen hS9.C 15
  have d15 : v2.cell? ⟨c, 15, none⟩ = some (.bool false) := Blk.cell hS9.C 15
  clear hB9 hq9 hr9
  go_wp2_with fail
  go_ret
  exact ⟨⟨_, rfl⟩, ⟨n', by omega, hS9.set 15 _ rfl⟩, hKR.set hpl.1 15 _⟩
set_option maxRecDepth 100000 in
set_option maxHeartbeats 8000000 in
theorem stepSta (D : DevA) (A : BusA) (base c a p pc n nr v : Nat) (Mx : Int) (M : Nat → Nat) (w : World) (hx : pc < 7998) (hn : n ≤ 680) (hp : p < 256) (ht : p.testBit 5 = false) (hb : M pc = 133) (hv : M (pc + 1) = v) (hv2 : v < 256) (hr : nr < 100000) (hL : w.cell? ⟨0, 0, none⟩ = some (.int .i64 Mx)) (hLD : 0 < D.l) (hS : Sys w D A base c a p pc n nr M) :
    Calls Tryz.prog 6 #[.pointer (some ⟨c, 0, none⟩)] w fun e w' => (∃ v, e = .returned v) ∧ (∃ n', n' ≤ n + 4 ∧ Sys w' D A base c a p (pc + 2) n' (nr + 1) (upM M v a)) ∧ KeepC D base c w w' := by
  have hbg := fun W => flBegun_calls p W hp
  rw [t_fis ht, t_fset hp ht] at hbg
  have hpl := hS.pl
  have hcw := hS.C.lt
  have c4 : w.cell? ⟨c, 4, none⟩ = some (.int .u8 (p : Int)) := Blk.cell hS.C 4
  have f4 : w.frozen? ⟨c, 4, none⟩ = false := Blk.frozen hS.C 4
  have hS0 : Sys (w.setCell ⟨c, 4, none⟩ (.int .u8 (p : Int))) D A base c a p pc n nr M := hS.set 4 _ rfl
  have hK0 : KeepC D base c w (w.setCell ⟨c, 4, none⟩ (.int .u8 (p : Int))) := (KeepC.refl w).set hpl.1 4 _
  have hnx := coNext_calls D A base c a p pc n nr 0 M _ (by omega) (by omega) hS0
  rw [hb] at hnx
  have hop : ∀ W, W.cell? ⟨0, 0, none⟩ = some (.int .i64 Mx) → Calls Tryz.prog 18 #[.int .u8 133] W fun e w' => e = .returned (.agg (opV 133)) ∧ Below W.heap.size W w' := fun W h => opOf_calls 133 Mx W (by omega) h
  obtain ⟨cy, hcy⟩ := op_sta
  rw [hcy] at hop
  clear hcy
  have hod := fun W (h : Sys W D A base c a p (pc + 1) (n + 1) nr M) => coOperands_calls D A base c a p (pc + 1) (n + 1) nr M W (by omega) (by omega) h
  rw [hv] at hod
  have hdo := fun s W (h1 : Opd W base c s v) (h2 : Sys W D A base c a p (pc + 1 + 1) (n + 1 + 1) nr M) => doSta D A base c a p (pc + 1 + 1) (n + 1 + 1) nr v cy false s M W (by omega) (by omega) hr hv2 h1 h2
  have hlow : ∀ W, KeepC D base c w W → W.cell? ⟨0, 0, none⟩ = some (.int .i64 Mx) := fun W h => (h.b.cell (p := ⟨0, 0, none⟩) hLD).trans hL
  clear hL hLD hS hb hv
  go_enter Tryz.func6, Tryz.ntmps6
  go_wp2_with fail
  refine Cl.p (hbg _) ?_
  clear hbg
  go_wp2_with fail
  refine hnx.mono ?_
  clear hnx
  rintro e w1 ⟨rfl, hS1, hK1⟩
  have hK01 := hK0.trans hK1
  clear hK0 hK1 hS0 c4 f4
  go_wp2_with fail
  refine (hop w1 (hlow w1 hK01)).mono ?_
  clear hop hlow
  rintro e w2 ⟨rfl, hb2⟩
  have hS2 := hS1.low hb2
  have hK2 := hK01.low2 hpl.2.1 hb2
  have hba : Below w2.heap.size w2 (w2.alloc (.cells #[.string ⟨#[83, 84, 65]⟩, .int .u8 2, .int .i64 2, .int .i64 cy] 62)) := Bl.alloc (Below.refl _ _) _
  have hB3 : Blk (w2.alloc (.cells #[.string ⟨#[83, 84, 65]⟩, .int .u8 2, .int .i64 2, .int .i64 cy] 62)) w2.heap.size 62 #[.string ⟨#[83, 84, 65]⟩, .int .u8 2, .int .i64 2, .int .i64 cy] := Blk.new _ _ _
  have hz : Blk (w2.alloc (.cells #[.string ⟨#[]⟩, .int .u8 0, .int .i64 0, .int .i64 0] 62)) w2.heap.size 62 #[.string ⟨#[]⟩, .int .u8 0, .int .i64 0, .int .i64 0] := Blk.new _ _ _
  have hS3 := hS2.low hba
  have hK3 := hK2.low2 hpl.2.1 hba
  have hge : base ≤ w2.heap.size := Nat.le_trans hpl.2.2.1 hK2.b.size
  have hne : w2.heap.size ≠ c := by have := hK2.b.size; omega
  clear hS1 hK01 hb2 hS2 hK2 hba
  go_wp2_with (refine wpList_store_row rfl 62 _ _ rfl w2.heap.size #[.string ⟨#[83, 84, 65]⟩, .int .u8 2, .int .i64 2, .int .i64 cy] rfl rfl 62 _ hz (by kernel_rfl) rfl (by kernel_rfl) ?_; rw [setRow_new])
  clear hz
  generalize w2.alloc (.cells #[.string ⟨#[83, 84, 65]⟩, .int .u8 2, .int .i64 2, .int .i64 cy] 62) = w3 at *
  generalize w2.heap.size = go at *
  have b0 : w3.cell? ⟨go, 0, none⟩ = some (.string ⟨#[83, 84, 65]⟩) := Blk.cell hB3 0
  have b1 : w3.cell? ⟨go, 1, none⟩ = some (.int .u8 2) := Blk.cell hB3 1
  go_wp2_with fail
  have b2 : w3.cell? ⟨go, 2, none⟩ = some (.int .i64 2) := Blk.cell hB3 2
  clear b0 b1
  refine wp_region_held_drew (S := fun W => W.cell? ⟨go, 2, none⟩ = some (.int .i64 2) ∧ Blk W go 62 #[.string ⟨#[83, 84, 65]⟩, .int .u8 2, .int .i64 2, .int .i64 cy]) (by kernel_rfl) ⟨(by first | exact b2.drew | exact b2 | exact Below.drew b2), (by first | exact hB3.drew | exact hB3 | exact Below.drew hB3)⟩ (fun hS0 => ?_)
  have hS3_0 : Sys w3.drew D A base c a p (pc + 1) (n + 1) nr M := by first | exact hS3.drew | exact hS3
  have hK3_0 : KeepC D base c w w3.drew := by first | exact hK3.drew | exact hK3
  clear b2 hB3 hS3 hK3
  change wpAnyH _ _ _ _ _ 9 #[false, false, false, false, false, false, false, false, false] _ _
  generalize w3.drew = v0 at *
  refine wpAnyH_take (i := 0) (v := ?_) rfl (by kernel_rfl) (by kernel_rfl) (by kernel_rfl) (fun _ _ _ h => h) (Or.inl ⟨by rfl, ?_⟩) hS0 ?_
  rotate_left
  · (intro w hSw; (try dsimp only at hSw); go_simp; try with_reducible rfl)
  simp only [List.getElem_toArray, List.getElem_cons_zero, List.getElem_cons_succ, Act.put, List.setIfInBounds_toArray, List.set_cons_zero, List.set_cons_succ]
  refine wpAnyH_take (i := 1) (v := .agg #[.string ⟨#[83, 84, 65]⟩, .int .u8 2, .int .i64 2, .int .i64 cy]) rfl (by kernel_rfl) (by kernel_rfl) (by kernel_rfl) (fun _ _ _ h => h) (YieldsIf.row_w (by rfl) 62 _ rfl go rfl _ _ _ (fun _ h => h.2) Tryz.underlying62 rfl (by kernel_rfl)) hS0 ?_
  simp only [List.getElem_toArray, List.getElem_cons_zero, List.getElem_cons_succ, Act.put, List.setIfInBounds_toArray, List.set_cons_zero, List.set_cons_succ]
  refine wpAnyH_take (i := 2) (v := ?_) rfl (by kernel_rfl) (by kernel_rfl) (by kernel_rfl) (fun _ _ _ h => h) (Or.inl ⟨by rfl, ?_⟩) hS0 ?_
  rotate_left
  · (intro w hSw; (try dsimp only at hSw); go_simp; try with_reducible rfl)
  simp only [List.getElem_toArray, List.getElem_cons_zero, List.getElem_cons_succ, Act.put, List.setIfInBounds_toArray, List.set_cons_zero, List.set_cons_succ]
  refine wpAnyH_take (i := 3) (v := ?_) rfl (by kernel_rfl) (by kernel_rfl) (by kernel_rfl) (fun _ _ _ h => h) (Or.inl ⟨by rfl, ?_⟩) hS0 ?_
  rotate_left
  · (intro w hSw; (try dsimp only at hSw); go_simp; try with_reducible rfl)
  simp only [List.getElem_toArray, List.getElem_cons_zero, List.getElem_cons_succ, Act.put, List.setIfInBounds_toArray, List.set_cons_zero, List.set_cons_succ]
  refine wpAnyH_take (i := 4) (v := ?_) rfl (by kernel_rfl) (by kernel_rfl) (by kernel_rfl) (fun _ _ _ h => h) (Or.inl ⟨by rfl, ?_⟩) hS0 ?_
  rotate_left
  · (intro w hSw; (try dsimp only at hSw); go_simp; try with_reducible rfl)
  simp only [List.getElem_toArray, List.getElem_cons_zero, List.getElem_cons_succ, Act.put, List.setIfInBounds_toArray, List.set_cons_zero, List.set_cons_succ]
  refine wpAnyH_take (i := 5) (v := ?_) rfl (by kernel_rfl) (by kernel_rfl) (by kernel_rfl) (fun _ _ _ h => h) (Or.inl ⟨by rfl, ?_⟩) hS0 ?_
  rotate_left
  · (intro w hSw; (try dsimp only at hSw); go_simp; try with_reducible rfl)
  simp only [List.getElem_toArray, List.getElem_cons_zero, List.getElem_cons_succ, Act.put, List.setIfInBounds_toArray, List.set_cons_zero, List.set_cons_succ]
  refine wpAnyH_take (i := 7) (v := ?_) rfl (by kernel_rfl) (by kernel_rfl) (by kernel_rfl) (fun _ _ _ h => h) (Or.inl ⟨by rfl, ?_⟩) hS0 ?_
  rotate_left
  · (intro w hSw; (try dsimp only at hSw); go_simp; try with_reducible rfl)
  simp only [List.getElem_toArray, List.getElem_cons_zero, List.getElem_cons_succ, Act.put, List.setIfInBounds_toArray, List.set_cons_zero, List.set_cons_succ]
  refine wpAnyH_ready (rs := [6]) (by kernel_rfl) (by simp) ?_
  refine AllReadyH.cons rfl (fun K hK => ?_) AllReadyH.nil
  go_simp
  refine (hod _ hS3_0).mono ?_
  rintro e v1 ⟨s, rfl, q0, q1, q2⟩
  have hBN := KeepC.box q2 hS0.2 hge (by decide) hne
  have hKN := KeepC.trans hK3_0 q2
  (try go_simp)
  refine hK.out _ _ ⟨Blk.cell hBN 2, hBN⟩ (fun hS1 => ?_)
  clear hK K hS0
  simp only [List.getElem_toArray, List.getElem_cons_zero, List.getElem_cons_succ, Act.put, List.setIfInBounds_toArray, List.set_cons_zero, List.set_cons_succ]
  refine wpAnyH_ready (rs := [8]) (by kernel_rfl) (by simp) ?_
  refine AllReadyH.cons rfl (fun K hK => ?_) AllReadyH.nil
  go_simp
  refine (hdo s _ q0 q1).mono ?_
  rintro e v2 ⟨rfl, r1, r2⟩
  have hBR := KeepC.box r2 hBN hge (by decide) hne
  have hKR := KeepC.trans hKN r2
  (try go_simp)
  refine hK.out _ _ ⟨Blk.cell hBR 2, hBR⟩ (fun hS2 => ?_)
  clear hK K hS1
  simp only [List.getElem_toArray, List.getElem_cons_zero, List.getElem_cons_succ, Act.put, List.setIfInBounds_toArray, List.set_cons_zero, List.set_cons_succ]
  refine wpAnyH_done (by kernel_rfl) ?_ _
  have b2 := hS2.1
  have hB3 := hS2.2
  clear hS2
  have hS9 := r1
  clear b2 hB3 hod hdo
  have d16 : v2.cell? ⟨c, 16, none⟩ = some (.pointer (some ⟨A.b, 0, none⟩)) := Blk.cell hS9.C 16
  go_wp2_with fail
  obtain ⟨np9, V9, hB9, hq9, hr9⟩ := hS9.B
  refine Cl.p (bsTurn_calls _ hB9) ?_
  go_wp2_with fail
  refine Cl.p (bsFast_calls _ hB9) ?_
  have f15 : v2.frozen? ⟨c, 15, none⟩ = false := Blk.frozen hS9.C 15
  have d15 : v2.cell? ⟨c, 15, none⟩ = some (.bool false) := Blk.cell hS9.C 15
  clear hB9 hq9 hr9
  go_wp2_with fail
  go_ret
  exact ⟨⟨_, rfl⟩, ⟨n + 1 + 1 + 2, by omega, hS9.set 15 _ rfl⟩, hKR.set hpl.1 15 _⟩
end Go.Proofs.YtplobngbjpgcgaaGreatDoor
end
