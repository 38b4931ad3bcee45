/-
  Package modes: one.
-/
import Derived.Test.YtlojabeeonhceaaDoorMod7
namespace Go.Proofs.YtlojabeeonhceaaDoor
set_option linter.unusedSimpArgs false
set_option linter.unusedVariables false
set_option maxRecDepth 10000
open Go.RowKit Go.Shelf Pl
/-- How many bytes an instruction has. -/
noncomputable def sizB (b : Nat) : Nat := (1 + behM (modeB b)).toNat
theorem sizB_eq (b : Nat) : 1 + behM (modeB b) = (sizB b : Int) := by
  have := behM_le (modeB b)
  unfold sizB
  omega
theorem sizB_le (b : Nat) : 1 ≤ sizB b ∧ sizB b ≤ 7 := by
  have := behM_le (modeB b)
  unfold sizB
  omega
theorem behM_pos (m : Nat) (h1 : 1 ≤ m) (h : m < 20) : 1 ≤ behM m := by
  have h : m = 1 ∨ m = 2 ∨ m = 3 ∨ m = 4 ∨ m = 5 ∨ m = 6 ∨ m = 7 ∨ m = 8 ∨ m = 9 ∨ m = 10 ∨ m = 11 ∨ m = 12 ∨ m = 13 ∨ m = 14 ∨ m = 15 ∨ m = 16 ∨ m = 17 ∨ m = 18 ∨ m = 19 := by omega
  rcases h with rfl | rfl | rfl | rfl | rfl | rfl | rfl | rfl | rfl | rfl | rfl | rfl | rfl | rfl | rfl | rfl | rfl | rfl | rfl <;> decide
/-- Is a row of bytes begun by a whole instruction? -/
noncomputable def isI (n b : Nat) : Bool := knoS (nmB b) && decide (sizB b ≤ n)
noncomputable def lnN (n b : Nat) : Nat := if isI n b then sizB b else 1
noncomputable def lnT (n : Nat) (B : Nat → Nat) (p : Nat) : ByteArray :=
  if isI n (B 0) then (if modeB (B 0) = 0 then nameS (nmB (B 0)) else nameS (nmB (B 0)) ++ ⟨#[32]⟩ ++ ⟨(opnd (modeB (B 0)) (fun i => B (1 + i)) ((p + sizB (B 0)) % 65536)).toArray⟩) else ⟨#[46, 98, 121, 116, 101, 32]⟩ ++ ⟨(dlr (B 0) 2).toArray⟩
set_option maxHeartbeats 4000000 in
theorem oneD_calls (b o n c p : Nat) (M : Int) (B : Nat → Nat) (w : World) (hn : 1 ≤ n) (hnc : n ≤ c) (hp : p < 65536) (hB : Byt w b o n B) (hkk : knoS (nmB (B 0)) = true) (hge : sizB (B 0) ≤ n) (hq1 : 0 < modeB (B 0)) (hM : w.cell? ⟨0, 0, none⟩ = some (.int .i64 M)) :
    Calls Tryd.prog 15 #[.slice (some ⟨b, o, none⟩) n c, .int .u16 (p : Int)] w fun e w' => e = .returned (.tuple #[.string (lnT n B p), .int .i64 (lnN n (B 0) : Int)]) ∧ Below w.heap.size w w' := by
  have hB00 := hB 0 (by omega)
  rw [Nat.add_zero] at hB00
  obtain ⟨hc, hb⟩ := hB00
  have hof := opOf_calls (B 0) M w hb hM
  have hz := sizB_le (B 0)
  have hze := sizB_eq (B 0)
  unfold opV at hof
  rw [hze] at hof
  have hkn := fun W => known_calls (B 0) W hb
  have hpl := fun W => place_calls (B 0) W hb
  have hq := modeB_lt (B 0) hb
  have hns := nameS_le _ (nmB_size (B 0) hb)
  have hop := fun W (h1 : 1 ≤ modeB (B 0)) (hz2 : sizB (B 0) ≤ n) (hBW : Byt W b o n B) => opnd_calls (modeB (B 0)) b (o + 1) (sizB (B 0) - 1) (c - 1) ((p + sizB (B 0)) % 65536) (fun i => B (1 + i)) W h1 hq (by omega) (by omega) (by omega) (hBW.at 1 _ (by omega))
  have hol := opnd_len (modeB (B 0)) (fun i => B (1 + i)) ((p + sizB (B 0)) % 65536)
  have hdl := dlr_len (B 0) 2 rfl
  have hz2 : 2 ≤ sizB (B 0) := by
    have := behM_pos _ hq1 hq
    omega
  have hpz : (p + sizB (B 0)) % 65536 < 65536 := by omega
  have hr1 : IntKind.u16.wrap ((sizB (B 0) : Nat) : Int) = (sizB (B 0) : Int) := by rw [IntKind.wrap_u16]; omega
  have hr2 : IntKind.u16.wrap ((p : Int) + (sizB (B 0) : Int)) = (((p + sizB (B 0)) % 65536 : Nat) : Int) := by rw [IntKind.wrap_u16]; omega
  unfold lnT lnN isI
  generalize opnd (modeB (B 0)) (fun i => B (1 + i)) ((p + sizB (B 0)) % 65536) = T at *
  generalize (p + sizB (B 0)) % 65536 = r at *
  generalize dlr (B 0) 2 = dl at *
  generalize nameS (nmB (B 0)) = ns at *
  generalize cycM ns (modeB (B 0)) = cy at *
  generalize modeB (B 0) = q at *
  generalize knoS (nmB (B 0)) = k at *
  generalize sizB (B 0) = z at *
  clear hze
  have i0 : (0 : Int) < (n : Int) := by omega
  have j0 : 0 < n := by omega
  subst hkk
  have hd : decide (z ≤ n) = true := decide_eq_true (by omega)
  have i1 : (decide ((n : Int) < (z : Int))) = false := decide_eq_false (by omega)
  have i2 : (decide (n < z)) = false := decide_eq_false (by omega)
  have s1 : ¬ 9223372036854775807 < ns.size + 1 := by omega
  have s2 : ¬ 9223372036854775807 < ns.size + 1 + T.length := by omega
  rw [hd]
  have hnq : ((q : Int) == 0) = false := by rw [beq_eq_false_iff_ne]; omega
  have hnq2 : ¬ q = 0 := by omega
  have k1 : (1 : Int) ≤ (z : Int) := by omega
  have k2 : (z : Int) ≤ (c : Int) := by omega
  have k3 : z ≤ c := by omega
  have k4 : 1 ≤ z := by omega
  have k5 : ¬ c = 1 := by omega
  have k6 : (c - 1 == 0) = false := by rw [beq_eq_false_iff_ne]; omega
  have k7 : ¬ c - 1 = 0 := by omega
  have hop2 := fun W => hop W hq1 (by omega)
  clear hop
  go_enter Tryd.func15, Tryd.ntmps15
  go_wp2_with fail
  refine Cl.m hof ?_
  intro w1 hb1
  have hbx : Below w.heap.size w (w1.alloc (.cells #[Value.string ns, Value.int .u8 (q : Int), Value.int .i64 (z : Int), Value.int .i64 cy] 26)) := Bl.alloc hb1 _
  have hcx := (hbx.cell (cell_lt hc)).trans hc
  have hX : Blk (w1.alloc (.cells #[Value.string ns, Value.int .u8 (q : Int), Value.int .i64 (z : Int), Value.int .i64 cy] 26)) w1.heap.size 26 #[Value.string ns, Value.int .u8 (q : Int), Value.int .i64 (z : Int), Value.int .i64 cy] := Blk.new _ _ _
  clear hof hd
  go_wp2_with fail
  refine Cl.m (hkn _) ?_
  intro w2 hb2
  have hb02 : Below w.heap.size w w2 := hbx.trans (hb2.mono hbx.size)
  have hX2 := hX.below hb2 hX.lt
  have hB2 := hB.low hb02
  have hz2 : w2.cell? ⟨w1.heap.size, 2, none⟩ = some (.int .i64 (z : Int)) := hX2.cell 2
  have hz1 : w2.cell? ⟨w1.heap.size, 1, none⟩ = some (.int .u8 (q : Int)) := hX2.cell 1
  have hz0 : w2.cell? ⟨w1.heap.size, 0, none⟩ = some (.string ns) := hX2.cell 0
  clear hX hX2 hB
  go_wp2_with fail
  generalize w1.heap.size = g at *
  clear hbx hcx hb1 hb2
  refine wp_region_held_drew (S := fun W => W.cell? ⟨g, 0, none⟩ = some (.string ns) ∧ W.cell? ⟨g, 1, none⟩ = some (.int .u8 (q : Int)) ∧ W.cell? ⟨g, 2, none⟩ = some (.int .i64 (z : Int)) ∧ Byt W b o n B ∧ Below w.heap.size w W) (by kernel_rfl) ⟨(by first | exact hz0.drew | exact hz0 | exact Below.drew hz0), (by first | exact hz1.drew | exact hz1 | exact Below.drew hz1), (by first | exact hz2.drew | exact hz2 | exact Below.drew hz2), (by first | exact hB2.drew | exact hB2 | exact Below.drew hB2), (by first | exact hb02.drew | exact hb02 | exact Below.drew hb02)⟩ (fun hS0 => ?_)
  clear hz0 hz1 hz2 hB2 hb02
  change wpAnyH _ _ _ _ _ 20 #[false, false, false, false, false, false, false, false, false, false, false, false, false, false, false, false, false, false, false, false] _ _
  generalize w2.drew = v0 at *
  refine wpAnyH_take (i := 0) (v := ?_) rfl (by kernel_rfl) (by kernel_rfl) (by kernel_rfl) (fun _ _ _ h => h) (Or.inl ⟨by rfl, ?_⟩) hS0 ?_
  rotate_left
  · (intro w hSw; (try dsimp only at hSw); go_simp; try with_reducible rfl)
  simp only [List.getElem_toArray, List.getElem_cons_zero, List.getElem_cons_succ, Act.put, List.setIfInBounds_toArray, List.set_cons_zero, List.set_cons_succ]
  refine wpAnyH_take (i := 1) (v := ?_) rfl (by kernel_rfl) (by kernel_rfl) (by kernel_rfl) (fun _ _ _ h => h) (Or.inl ⟨by rfl, ?_⟩) hS0 ?_
  rotate_left
  · (intro w hSw; (try dsimp only at hSw); go_simp; try with_reducible rfl)
  simp only [List.getElem_toArray, List.getElem_cons_zero, List.getElem_cons_succ, Act.put, List.setIfInBounds_toArray, List.set_cons_zero, List.set_cons_succ]
  refine wpAnyH_take (i := 2) (v := ?_) rfl (by kernel_rfl) (by kernel_rfl) (by kernel_rfl) (fun _ _ _ h => h) (Or.inl ⟨by rfl, ?_⟩) hS0 ?_
  rotate_left
  · (intro w hSw; (try dsimp only at hSw); go_simp; try with_reducible rfl)
  simp only [List.getElem_toArray, List.getElem_cons_zero, List.getElem_cons_succ, Act.put, List.setIfInBounds_toArray, List.set_cons_zero, List.set_cons_succ]
  refine wpAnyH_take (i := 3) (v := ?_) rfl (by kernel_rfl) (by kernel_rfl) (by kernel_rfl) (fun _ _ _ h => h) (Or.inl ⟨by rfl, ?_⟩) hS0 ?_
  rotate_left
  · (intro w hSw; (try dsimp only at hSw); go_simp; try with_reducible rfl)
  simp only [List.getElem_toArray, List.getElem_cons_zero, List.getElem_cons_succ, Act.put, List.setIfInBounds_toArray, List.set_cons_zero, List.set_cons_succ]
  refine wpAnyH_take (i := 4) (v := ?_) rfl (by kernel_rfl) (by kernel_rfl) (by kernel_rfl) (fun _ _ _ h => h) (Or.inl ⟨by rfl, ?_⟩) hS0 ?_
  rotate_left
  · (intro w hSw; (try dsimp only at hSw); go_simp; try with_reducible rfl)
  simp only [List.getElem_toArray, List.getElem_cons_zero, List.getElem_cons_succ, Act.put, List.setIfInBounds_toArray, List.set_cons_zero, List.set_cons_succ]
  refine wpAnyH_take (i := 5) (v := ?_) rfl (by kernel_rfl) (by kernel_rfl) (by kernel_rfl) (fun _ _ _ h => h) (Or.inl ⟨by rfl, ?_⟩) hS0 ?_
  rotate_left
  · (intro w hSw; (try dsimp only at hSw); go_simp; try with_reducible rfl)
  simp only [List.getElem_toArray, List.getElem_cons_zero, List.getElem_cons_succ, Act.put, List.setIfInBounds_toArray, List.set_cons_zero, List.set_cons_succ]
  refine wpAnyH_take (i := 6) (v := ?_) rfl (by kernel_rfl) (by kernel_rfl) (by kernel_rfl) (fun _ _ _ h => h) (Or.inl ⟨by rfl, ?_⟩) hS0 ?_
  rotate_left
  · (intro w hSw; (try dsimp only at hSw); go_simp; try with_reducible rfl)
  simp only [List.getElem_toArray, List.getElem_cons_zero, List.getElem_cons_succ, Act.put, List.setIfInBounds_toArray, List.set_cons_zero, List.set_cons_succ]
  refine wpAnyH_take (i := 7) (v := ?_) rfl (by kernel_rfl) (by kernel_rfl) (by kernel_rfl) (fun _ _ _ h => h) (Or.inl ⟨by rfl, ?_⟩) hS0 ?_
  rotate_left
  · (intro w hSw; (try dsimp only at hSw); go_simp; try with_reducible rfl)
  simp only [List.getElem_toArray, List.getElem_cons_zero, List.getElem_cons_succ, Act.put, List.setIfInBounds_toArray, List.set_cons_zero, List.set_cons_succ]
  refine wpAnyH_take (i := 8) (v := ?_) rfl (by kernel_rfl) (by kernel_rfl) (by kernel_rfl) (fun _ _ _ h => h) (Or.inl ⟨by rfl, ?_⟩) hS0 ?_
  rotate_left
  · (intro w hSw; (try dsimp only at hSw); go_simp; try with_reducible rfl)
  simp only [List.getElem_toArray, List.getElem_cons_zero, List.getElem_cons_succ, Act.put, List.setIfInBounds_toArray, List.set_cons_zero, List.set_cons_succ]
  refine wpAnyH_take (i := 9) (v := ?_) rfl (by kernel_rfl) (by kernel_rfl) (by kernel_rfl) (fun _ _ _ h => h) (Or.inl ⟨by rfl, ?_⟩) hS0 ?_
  rotate_left
  · (intro w hSw; (try dsimp only at hSw); go_simp; try with_reducible rfl)
  simp only [List.getElem_toArray, List.getElem_cons_zero, List.getElem_cons_succ, Act.put, List.setIfInBounds_toArray, List.set_cons_zero, List.set_cons_succ]
  refine wpAnyH_take (i := 10) (v := ?_) rfl (by kernel_rfl) (by kernel_rfl) (by kernel_rfl) (fun _ _ _ h => h) (Or.inl ⟨by rfl, ?_⟩) hS0 ?_
  rotate_left
  · (intro w hSw; (try dsimp only at hSw); go_simp; try with_reducible rfl)
  simp only [List.getElem_toArray, List.getElem_cons_zero, List.getElem_cons_succ, Act.put, List.setIfInBounds_toArray, List.set_cons_zero, List.set_cons_succ]
  refine wpAnyH_take (i := 11) (v := ?_) rfl (by kernel_rfl) (by kernel_rfl) (by kernel_rfl) (fun _ _ _ h => h) (Or.inl ⟨by rfl, ?_⟩) hS0 ?_
  rotate_left
  · (intro w hSw; (try dsimp only at hSw); go_simp; try with_reducible rfl)
  simp only [List.getElem_toArray, List.getElem_cons_zero, List.getElem_cons_succ, Act.put, List.setIfInBounds_toArray, List.set_cons_zero, List.set_cons_succ]
  refine wpAnyH_take (i := 12) (v := ?_) rfl (by kernel_rfl) (by kernel_rfl) (by kernel_rfl) (fun _ _ _ h => h) (Or.inl ⟨by rfl, ?_⟩) hS0 ?_
  rotate_left
  · (intro w hSw; (try dsimp only at hSw); go_simp; try with_reducible rfl)
  simp only [List.getElem_toArray, List.getElem_cons_zero, List.getElem_cons_succ, Act.put, List.setIfInBounds_toArray, List.set_cons_zero, List.set_cons_succ]
  refine wpAnyH_take (i := 13) (v := ?_) rfl (by kernel_rfl) (by kernel_rfl) (by kernel_rfl) (fun _ _ _ h => h) (Or.inl ⟨by rfl, ?_⟩) hS0 ?_
  rotate_left
  · (intro w hSw; (try dsimp only at hSw); go_simp; try with_reducible rfl)
  simp only [List.getElem_toArray, List.getElem_cons_zero, List.getElem_cons_succ, Act.put, List.setIfInBounds_toArray, List.set_cons_zero, List.set_cons_succ]
  refine wpAnyH_take (i := 16) (v := ?_) rfl (by kernel_rfl) (by kernel_rfl) (by kernel_rfl) (fun _ _ _ h => h) (Or.inl ⟨by rfl, ?_⟩) hS0 ?_
  rotate_left
  · (intro w hSw; (try dsimp only at hSw); go_simp; try with_reducible rfl)
  simp only [List.getElem_toArray, List.getElem_cons_zero, List.getElem_cons_succ, Act.put, List.setIfInBounds_toArray, List.set_cons_zero, List.set_cons_succ]
  refine wpAnyH_take (i := 17) (v := ?_) rfl (by kernel_rfl) (by kernel_rfl) (by kernel_rfl) (fun _ _ _ h => h) (Or.inl ⟨by rfl, ?_⟩) hS0 ?_
  rotate_left
  · (intro w hSw; (try dsimp only at hSw); go_simp; try with_reducible rfl)
  simp only [List.getElem_toArray, List.getElem_cons_zero, List.getElem_cons_succ, Act.put, List.setIfInBounds_toArray, List.set_cons_zero, List.set_cons_succ]
  refine wpAnyH_ready (rs := [14]) (by kernel_rfl) (by simp) ?_
  refine AllReadyH.cons rfl (fun K hK => ?_) AllReadyH.nil
  go_simp
  refine (hop2 _ hS0.2.2.2.1).mono ?_
  rintro e v1 ⟨rfl, hb1⟩
  (try go_simp)
  refine hK.out _ _ ⟨(by first | exact hS0.1.below hb1 hS0.1.lt | exact hS0.1.trans (hb1.mono hS0.1.size) | exact hS0.1.trans (hb1.mono (by have := hS0.1.size; omega)) | exact (hb1.cell (cell_lt hS0.1)).trans hS0.1 | exact hS0.1.below hb1 (Nat.le_refl _) | exact hS0.1.low hb1 | exact hS0.1.below hb1 | exact hS0.1.trans (Only.of hb1)), (by first | exact hS0.2.1.below hb1 hS0.2.1.lt | exact hS0.2.1.trans (hb1.mono hS0.2.1.size) | exact hS0.2.1.trans (hb1.mono (by have := hS0.2.1.size; omega)) | exact (hb1.cell (cell_lt hS0.2.1)).trans hS0.2.1 | exact hS0.2.1.below hb1 (Nat.le_refl _) | exact hS0.2.1.low hb1 | exact hS0.2.1.below hb1 | exact hS0.2.1.trans (Only.of hb1)), (by first | exact hS0.2.2.1.below hb1 hS0.2.2.1.lt | exact hS0.2.2.1.trans (hb1.mono hS0.2.2.1.size) | exact hS0.2.2.1.trans (hb1.mono (by have := hS0.2.2.1.size; omega)) | exact (hb1.cell (cell_lt hS0.2.2.1)).trans hS0.2.2.1 | exact hS0.2.2.1.below hb1 (Nat.le_refl _) | exact hS0.2.2.1.low hb1 | exact hS0.2.2.1.below hb1 | exact hS0.2.2.1.trans (Only.of hb1)), (by first | exact hS0.2.2.2.1.below hb1 hS0.2.2.2.1.lt | exact hS0.2.2.2.1.trans (hb1.mono hS0.2.2.2.1.size) | exact hS0.2.2.2.1.trans (hb1.mono (by have := hS0.2.2.2.1.size; omega)) | exact (hb1.cell (cell_lt hS0.2.2.2.1)).trans hS0.2.2.2.1 | exact hS0.2.2.2.1.below hb1 (Nat.le_refl _) | exact hS0.2.2.2.1.low hb1 | exact hS0.2.2.2.1.below hb1 | exact hS0.2.2.2.1.trans (Only.of hb1)), (by first | exact hS0.2.2.2.2.below hb1 hS0.2.2.2.2.lt | exact hS0.2.2.2.2.trans (hb1.mono hS0.2.2.2.2.size) | exact hS0.2.2.2.2.trans (hb1.mono (by have := hS0.2.2.2.2.size; omega)) | exact (hb1.cell (cell_lt hS0.2.2.2.2)).trans hS0.2.2.2.2 | exact hS0.2.2.2.2.below hb1 (Nat.le_refl _) | exact hS0.2.2.2.2.low hb1 | exact hS0.2.2.2.2.below hb1 | exact hS0.2.2.2.2.trans (Only.of hb1))⟩ (fun hS1 => ?_)
  clear hK K
  clear hb1 hS0
  simp only [List.getElem_toArray, List.getElem_cons_zero, List.getElem_cons_succ, Act.put, List.setIfInBounds_toArray, List.set_cons_zero, List.set_cons_succ]
  refine wpAnyH_take (i := 15) (v := ?_) rfl (by kernel_rfl) (by kernel_rfl) (by kernel_rfl) (fun _ _ _ h => h) (Or.inl ⟨by rfl, ?_⟩) hS1 ?_
  rotate_left
  · (intro w hSw; (try dsimp only at hSw); go_simp; try with_reducible rfl)
  simp only [List.getElem_toArray, List.getElem_cons_zero, List.getElem_cons_succ, Act.put, List.setIfInBounds_toArray, List.set_cons_zero, List.set_cons_succ]
  refine wpAnyH_take (i := 18) (v := ?_) rfl (by kernel_rfl) (by kernel_rfl) (by kernel_rfl) (fun _ _ _ h => h) (Or.inl ⟨by rfl, ?_⟩) hS1 ?_
  rotate_left
  · (intro w hSw; (try dsimp only at hSw); go_simp; try with_reducible rfl)
  simp only [List.getElem_toArray, List.getElem_cons_zero, List.getElem_cons_succ, Act.put, List.setIfInBounds_toArray, List.set_cons_zero, List.set_cons_succ]
  refine wpAnyH_take (i := 19) (v := ?_) rfl (by kernel_rfl) (by kernel_rfl) (by kernel_rfl) (fun _ _ _ h => h) (Or.inl ⟨by rfl, ?_⟩) hS1 ?_
  rotate_left
  · (intro w hSw; (try dsimp only at hSw); go_simp; try with_reducible rfl)
  simp only [List.getElem_toArray, List.getElem_cons_zero, List.getElem_cons_succ, Act.put, List.setIfInBounds_toArray, List.set_cons_zero, List.set_cons_succ]
  refine wpAnyH_done (by kernel_rfl) ?_ _
  have hz0 := hS1.1
  have hz1 := hS1.2.1
  have hz2 := hS1.2.2.1
  have hB2 := hS1.2.2.2.1
  have hb02 := hS1.2.2.2.2
  clear hS1
  go_wp2_with fail
  go_ret2
  exact ⟨rfl, hb02⟩
end Go.Proofs.YtlojabeeonhceaaDoor
