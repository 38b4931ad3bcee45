/-
  gannettop: TopLaid.
-/
import Derived.Test.YtjgobmgoidioiaaRam3
import Derived.Test.YtjgobmgoidioiaaRam4
import Derived.Test.YtjgobmgoidioiaaCart7
import Derived.Test.YtjgobmgoidioiaaOpenP
import Derived.Test.YtjgobmgoidioiaaObit
namespace Go.Proofs.Ytjgobmgoidioiaa
set_option linter.unusedSimpArgs false
set_option linter.unusedVariables false
open Go.RowKit Pl

theorem run_eql_fault (a b : Int) (w : World) : (binOp .eql 30 (.agg #[.int .i64 a, .int .i64 b]) (.agg #[.int .i64 a, .int .i64 b])).run Try.prog w = .ok (.bool true) w := by
  have hu : Try.prog.underlying 30 = some (.struct (Try.prog.fieldsOf 30)) := by kernel_rfl
  have hp : Try.prog.stoodInHeld 30 = false := by kernel_rfl
  have h1 : ∀ w, (isAgg 28).run Try.prog w = .ok false w := fun w => by simp [isAgg, run_underlying Try.underlying28]
  have h2 : ∀ w, (isAgg 3).run Try.prog w = .ok false w := fun w => by simp [isAgg, run_underlying Try.underlying3]
  rw [run_eql_struct, run_equalIn_agg w 9999 30 _ _ hu hp]
  simp only [Program.fieldsOf, Try.underlying30]
  simp [Op.eqFields, part, h1, h2, run_equalIn_int _ _ 28 _ _ _ _ Try.underlying28, run_equalIn_int _ _ 3 _ _ _ _ Try.underlying3]
theorem first_bad {n i j : Nat} {At : Nat → Int} {Ln : Nat → Nat} (h1 : ∀ k, k < i → Fits 8192 (At k) (Ln k)) (h2 : ¬ Fits 8192 (At i) (Ln i)) (h3 : ∀ k, k < j → Fits 8192 (At k) (Ln k)) (h4 : ¬ Fits 8192 (At j) (Ln j)) : j = i := by
  rcases Nat.lt_trichotomy i j with h | h | h
  · exact absurd (h3 i h) h2
  · exact h.symm
  · exact absurd (h1 j h) h4
/-- Two lists of pieces that tell the same runs are the same. -/
theorem same_PL {w : World} {b1 b2 n m ca cb : Nat} {a b : Option Addr} {ps : List (Nat × Nat)} {F : Nat → Int} (h1 : PL w b1 (.slice a n ca) ps F) (h2 : PL w b2 (.slice b m cb) ps F) (hl : ps.length ≤ 100000) (hp : ∀ k, k < ps.length → pN ps k ≤ maxLen) :
    Calls Try.prog 11 #[.slice a n ca, .slice b m cb] w fun e w' => e = .returned (.bool true) ∧ Below w.heap.size w w' := by
  obtain ⟨a1, c1, O1, C1, e1, q1⟩ := h1.pieces
  obtain ⟨a2, c2, O2, C2, e2, q2⟩ := h2.pieces
  cases e1
  cases e2
  exact rcSame_calls a b ps.length ca cb _ O1 O2 (pN ps) C1 C2 _ w.heap.size w (by unfold maxLen; omega) hp q1 q2
set_option maxRecDepth 100000 in
set_option maxHeartbeats 8000000 in
theorem topLaid_calls (a : Option Addr) (n c : Nat) (At : Nat → Int) (O : Nat → Option Addr) (Ln Cp : Nat → Nat) (By : Nat → Nat → Int) (x : Nat) (w : World) (hn : n ≤ maxLen) (hx : x < 65536) (hLn : ∀ i, i < n → Ln i ≤ 9223372036854775807) (hAt : ∀ i, i < n → At i ≤ 9223372036854775807) (hP : PieB w a n At O Ln Cp By w.heap.size) :
    Calls Try.prog 3 #[.slice a n c, .int .u16 (x : Int)] w fun e w' => e = .returned (.bool true) ∧ Below w.heap.size w w' := by
  have htb : tb 1 0 = true := by decide
  have hbit := fun W => octBit_calls 1 0 W (by omega)
  rw [htb] at hbit
  clear htb
  by_cases h20 : 20 < n
  · have i20 : (20 : Int) < (n : Int) := by omega
    clear hP hLn hAt
    go_enter Try.func3, Try.ntmps3
    go_wp2_with fail
    refine Cl.p (hbit _) ?_
    go_wp2_with fail
    refine (rmNew_calls _).mono ?_
    rintro e w1 ⟨h, g, rfl, _, _, _, hb1⟩
    go_wp2_with fail
    refine (rmNew_calls _).mono ?_
    rintro e w2 ⟨h2, g2, rfl, _, _, _, hb2⟩
    go_wp2_with fail
    go_ret
    exact ⟨rfl, hb1.trans (hb2.mono hb1.size)⟩
  · have i20 : (decide ((20 : Int) < (n : Int))) = false := by rw [decide_eq_false_iff_not]; omega
    go_enter Try.func3, Try.ntmps3
    go_wp2_with fail
    refine Cl.p (hbit _) ?_
    clear hbit
    go_wp2_with fail
    refine (rmNew_calls _).mono ?_
    rintro e w1 ⟨h, g, rfl, _, _, _, hb1⟩
    have hP1 := hP.below hb1 (Nat.le_refl _)
    clear hP
    go_wp2_with fail
    refine (mk_walk 1 8192 a n c At O Ln Cp By w1 (by omega) rfl hn (hP1.mono hb1.size)).mono ?_
    rintro e w2 ⟨hb2, ⟨i, hi, hfit, hnf, rfl⟩ | ⟨hfit, gr, rfl, hR, hgr⟩⟩
    · have hb02 := hb1.trans (hb2.mono hb1.size)
      have hP2 := hP1.below hb2 hb1.size
      have hz : Blk (w2.alloc (.cells #[.int .i64 0, .int .i64 0] 30)) w2.heap.size 30 #[.int .i64 0, .int .i64 0] := Blk.new _ _ _
      have hF : Blk (w2.alloc (.cells (fltA (1, i)) 30)) w2.heap.size 30 (fltA (1, i)) := Blk.new _ _ _
      have hb03 := Bl.alloc hb02 (.cells (fltA (1, i)) 30)
      have hP3 := hP2.below (Below.alloc (Below.refl _ _) (Nat.le_refl _) (.cells (fltA (1, i)) 30)) hb02.size
      have f0 : (w2.alloc (.cells (fltA (1, i)) 30)).cell? ⟨w2.heap.size, 0, none⟩ = some (.int .i64 1) := hF.cell 0
      clear hb1 hb2 hP1 hP2 hb02
      go_wp2_with (refine wpList_store_row rfl 30 _ _ rfl w2.heap.size (fltA (1, i)) rfl rfl 30 _ hz (by kernel_rfl) rfl (by kernel_rfl) ?_; rw [setRow_new])
      generalize w2.alloc (.cells (fltA (1, i)) 30) = w3 at *
      generalize w2.heap.size = gf at *
      refine (rmOf_calls a n c At O Ln Cp By w3 (by omega) hLn hAt (hP3.mono hb03.size)).mono ?_
      rintro e w4 ⟨hb4, ⟨j, hj, hfit2, hnf2, rfl⟩ | ⟨hfit2, _⟩⟩
      · obtain rfl : j = i := first_bad (n := n) hfit hnf hfit2 hnf2
        have hF4 := hF.below hb4 hF.lt
        have hb04 := hb03.trans (hb4.mono hb03.size)
        have hz4 : Blk (w4.alloc (.cells #[.int .i64 0, .int .i64 0] 30)) w4.heap.size 30 #[.int .i64 0, .int .i64 0] := Blk.new _ _ _
        have hG : Blk (w4.alloc (.cells (fltA (1, j)) 30)) w4.heap.size 30 (fltA (1, j)) := Blk.new _ _ _
        have hF5 : Blk (w4.alloc (.cells (fltA (1, j)) 30)) gf 30 (fltA (1, j)) := hF4.alloc _
        have hb05 := Bl.alloc hb04 (.cells (fltA (1, j)) 30)
        have hq := run_eql_fault 1 (j : Int)
        have g0 : (w4.alloc (.cells (fltA (1, j)) 30)).cell? ⟨w4.heap.size, 0, none⟩ = some (.int .i64 1) := hG.cell 0
        have g1 : (w4.alloc (.cells (fltA (1, j)) 30)).cell? ⟨w4.heap.size, 1, none⟩ = some (.int .i64 (j : Int)) := hG.cell 1
        have k0 : (w4.alloc (.cells (fltA (1, j)) 30)).cell? ⟨gf, 0, none⟩ = some (.int .i64 1) := hF5.cell 0
        have k1 : (w4.alloc (.cells (fltA (1, j)) 30)).cell? ⟨gf, 1, none⟩ = some (.int .i64 (j : Int)) := hF5.cell 1
        clear hF hF4 hb4 hb03 hb04 hP3 f0 hfit hfit2
        go_wp2_with (refine wpList_store_row rfl 30 _ _ rfl w4.heap.size (fltA (1, j)) rfl rfl 30 _ hz4 (by kernel_rfl) rfl (by kernel_rfl) ?_; rw [setRow_new])
        go_ret
        exact ⟨rfl, hb05⟩
      · exact absurd (hfit2 i hi) hnf
    · have hb02 := hb1.trans (hb2.mono hb1.size)
      obtain ⟨F, hF⟩ : ∃ F, mkF At Ln By n = F := ⟨_, rfl⟩
      rw [hF] at hR
      have hz : Blk (w2.alloc (.cells #[.int .i64 0, .int .i64 0] 30)) w2.heap.size 30 #[.int .i64 0, .int .i64 0] := Blk.new _ _ _
      have hG : Blk (w2.alloc (.cells (fltA (0, 0)) 30)) w2.heap.size 30 (fltA (0, 0)) := Blk.new _ _ _
      have hR3 : RW (w2.alloc (.cells (fltA (0, 0)) 30)) gr 8192 F := Blk.alloc hR _
      have hb03 := Bl.alloc hb02 (.cells (fltA (0, 0)) 30)
      have f0 : (w2.alloc (.cells (fltA (0, 0)) 30)).cell? ⟨w2.heap.size, 0, none⟩ = some (.int .i64 0) := hG.cell 0
      clear hb1 hb2 hP1 hb02 hR hF hG hfit hLn hAt
      go_wp2_with (refine wpList_store_row rfl 30 _ _ rfl w2.heap.size (fltA (0, 0)) rfl rfl 30 _ hz (by kernel_rfl) rfl (by kernel_rfl) ?_; rw [setRow_new])
      generalize w2.alloc (.cells (fltA (0, 0)) 30) = w3 at *
      generalize w2.heap.size = gf at *
      refine (ctPieces_ok 8192 8192 (some ⟨gr, 0, none⟩) F w3 ⟨by omega, by omega, by omega⟩ (Nat.le_refl _) (by decide) hR3.nums).mono ?_
      rintro e w4 ⟨v, rfl, hP4, hb4⟩
      have hR4 : RW w4 gr 8192 F := Blk.below hR3 hb4 hR3.lt
      have hb04 := hb03.trans (hb4.mono hb03.size)
      have hps := runs_len (F := F) 8192
      have hpn := fun k (hk : k < (runsP F 8192).length) => pN_pos F 8192 k hk
      have hfr := fits_runs F 8192
      have hmk := mkF_runs F 8192
      obtain ⟨ap, cpp, Op, Cpp, rfl, hQ4⟩ := hP4.pieces
      clear hb03 hb4 hR3 f0
      generalize hps' : runsP F 8192 = ps at *
      obtain ⟨np, hnp⟩ : ∃ k, ps.length = k := ⟨_, rfl⟩
      rw [hnp] at hQ4 hps hmk hP4 ⊢
      go_wp2_with fail
      refine (rmOf_calls ap np cpp (fun i => (pA ps i : Int)) Op (pN ps) Cpp (pB F ps) w4 (by omega) (fun i hi => by have := hpn i (by omega); omega) (fun i hi => by have := hpn i (by omega); omega) hQ4).mono ?_
      rintro e w5 ⟨hb5, ⟨i, hi, _, hnf, _⟩ | ⟨_, hm, gm, rfl, hM5, _, _⟩⟩
      · exact absurd (hfr i (by omega)) hnf
      have hM5' : RamB w5 hm gm (8192 * np) F := by
        rw [hmk] at hM5
        exact ⟨hM5.1, hM5.2.congr (fun i hi => if_pos hi)⟩
      have hR5 : RW w5 gr 8192 F := Blk.below hR4 hb5 hR4.lt
      have hP5 : PL w5 w3.heap.size (.slice ap np cpp) ps F := hP4.below hb5 (Nat.le_refl _)
      have hb05 := hb04.trans (hb5.mono hb04.size)
      have hz : Blk (w5.alloc (.cells #[.int .i64 0, .int .i64 0] 30)) w5.heap.size 30 #[.int .i64 0, .int .i64 0] := Blk.new _ _ _
      have hG : Blk (w5.alloc (.cells (fltA (0, 0)) 30)) w5.heap.size 30 (fltA (0, 0)) := Blk.new _ _ _
      have hba : Below w5.heap.size w5 (w5.alloc (.cells (fltA (0, 0)) 30)) := Bl.alloc (Below.refl _ _) _
      have hR6 : RW (w5.alloc (.cells (fltA (0, 0)) 30)) gr 8192 F := Blk.alloc hR5 _
      have hM6 := hM5'.low hba
      have hP6 : PL (w5.alloc (.cells (fltA (0, 0)) 30)) w3.heap.size (.slice ap np cpp) ps F := hP5.below hba (Nat.le_refl _)
      have hb06 := hb05.trans (hba.mono hb05.size)
      have f0 : (w5.alloc (.cells (fltA (0, 0)) 30)).cell? ⟨w5.heap.size, 0, none⟩ = some (.int .i64 0) := hG.cell 0
      have HNP := hide hnp
      have HPS := hide hps'
      clear hP4 hQ4 hR4 hb04 hb5 hM5 hM5' hR5 hP5 hb05 hG hba hfr hmk hnp hps'
      go_wp2_with (refine wpList_store_row rfl 30 _ _ rfl w5.heap.size (fltA (0, 0)) rfl rfl 30 _ hz (by kernel_rfl) rfl (by kernel_rfl) ?_; rw [setRow_new])
      generalize w5.alloc (.cells (fltA (0, 0)) 30) = w6 at *
      clear f0 hz
      obtain ⟨r, hr⟩ : ∃ r, x % 8192 = r := ⟨_, rfl⟩
      have hr1 : r < 8192 := by omega
      have c0 : w6.cell? ⟨gr, r, none⟩ = some (.int .u8 (F r)) := hR6.cell r hr1
      have z1 : IntKind.i64.wrap (x : Int) = (x : Int) := by rw [IntKind.wrap_i64]; omega
      have z2 : IntKind.u32.wrap (x : Int) = (x : Int) := by rw [IntKind.wrap_u32]; omega
      have z3 : (x : Int).tmod 8192 = (r : Int) := by rw [Int.tmod_eq_emod_of_nonneg (by omega)]; omega
      have z4 : IntKind.i64.wrap (r : Int) = (r : Int) := by rw [IntKind.wrap_i64]; omega
      have z5 : IntKind.u32.wrap (r : Int) = (r : Int) := by rw [IntKind.wrap_u32]; omega
      have z6 : (x : Int) % 8192 = (r : Int) := by omega
      have z7 : (r : Int) < 8192 := by omega
      have z8 : (0 : Int) ≤ (r : Int) := by omega
      have zf : (F r == F r) = true := beq_self_eq_true _
      have hrdr : rdR 8192 F r = F r := rdR_low 8192 F r hr1 (by omega)
      refine wp_region_held_drew (S := fun W => W.cell? ⟨gr, r, none⟩ = some (.int .u8 (F r)) ∧ RW W gr 8192 F ∧ RamB W hm gm (8192 * np) F ∧ PL W w3.heap.size (.slice ap np cpp) ps F ∧ Below w.heap.size w W) (by kernel_rfl) ⟨(by first | exact c0.drew | exact c0 | exact Below.drew c0), (by first | exact hR6.drew | exact hR6 | exact Below.drew hR6), (by first | exact hM6.drew | exact hM6 | exact Below.drew hM6), (by first | exact hP6.drew | exact hP6 | exact Below.drew hP6), (by first | exact hb06.drew | exact hb06 | exact Below.drew hb06)⟩ (fun hS0 => ?_)
      clear c0 hR6 hM6 hP6 hb06
      change wpAnyH _ _ _ _ _ 28 #[false, false, false, false, false, false, false, false, false, false, false, false, false, false, false, false, false, false, false, false, false, false, false, false, false, false, false, false] _ _
      generalize w6.drew = v0 at *
      refine wpAnyH_take (i := 0) (v := ?_) rfl (by kernel_rfl) (by kernel_rfl) (by kernel_rfl) (fun _ _ _ h => h) (Or.inl ⟨by rfl, ?_⟩) hS0 ?_
      rotate_left
      · (intro w hSw; (try dsimp only at hSw); go_simp; try with_reducible rfl)
      simp only [List.getElem_toArray, List.getElem_cons_zero, List.getElem_cons_succ, Act.put, List.setIfInBounds_toArray, List.set_cons_zero, List.set_cons_succ]
      refine wpAnyH_take (i := 1) (v := ?_) rfl (by kernel_rfl) (by kernel_rfl) (by kernel_rfl) (fun _ _ _ h => h) (Or.inl ⟨by rfl, ?_⟩) hS0 ?_
      rotate_left
      · (intro w hSw; (try dsimp only at hSw); go_simp; try with_reducible rfl)
      simp only [List.getElem_toArray, List.getElem_cons_zero, List.getElem_cons_succ, Act.put, List.setIfInBounds_toArray, List.set_cons_zero, List.set_cons_succ]
      refine wpAnyH_take (i := 3) (v := ?_) rfl (by kernel_rfl) (by kernel_rfl) (by kernel_rfl) (fun _ _ _ h => h) (Or.inl ⟨by rfl, ?_⟩) hS0 ?_
      rotate_left
      · (intro w hSw; (try dsimp only at hSw); go_simp; try with_reducible rfl)
      simp only [List.getElem_toArray, List.getElem_cons_zero, List.getElem_cons_succ, Act.put, List.setIfInBounds_toArray, List.set_cons_zero, List.set_cons_succ]
      refine wpAnyH_take (i := 4) (v := ?_) rfl (by kernel_rfl) (by kernel_rfl) (by kernel_rfl) (fun _ _ _ h => h) (Or.inl ⟨by rfl, ?_⟩) hS0 ?_
      rotate_left
      · (intro w hSw; (try dsimp only at hSw); go_simp; try with_reducible rfl)
      simp only [List.getElem_toArray, List.getElem_cons_zero, List.getElem_cons_succ, Act.put, List.setIfInBounds_toArray, List.set_cons_zero, List.set_cons_succ]
      refine wpAnyH_take (i := 5) (v := ?_) rfl (by kernel_rfl) (by kernel_rfl) (by kernel_rfl) (fun _ _ _ h => h) (Or.inl ⟨by rfl, ?_⟩) hS0 ?_
      rotate_left
      · (intro w hSw; (try dsimp only at hSw); go_simp; try with_reducible rfl)
      simp only [List.getElem_toArray, List.getElem_cons_zero, List.getElem_cons_succ, Act.put, List.setIfInBounds_toArray, List.set_cons_zero, List.set_cons_succ]
      refine wpAnyH_take (i := 6) (v := ?_) rfl (by kernel_rfl) (by kernel_rfl) (by kernel_rfl) (fun _ _ _ h => h) (Or.inl ⟨by rfl, ?_⟩) hS0 ?_
      rotate_left
      · (intro w hSw; (try dsimp only at hSw); go_simp; try with_reducible rfl)
      simp only [List.getElem_toArray, List.getElem_cons_zero, List.getElem_cons_succ, Act.put, List.setIfInBounds_toArray, List.set_cons_zero, List.set_cons_succ]
      refine wpAnyH_take (i := 7) (v := ?_) rfl (by kernel_rfl) (by kernel_rfl) (by kernel_rfl) (fun _ _ _ h => h) (Or.inl ⟨by rfl, ?_⟩) hS0 ?_
      rotate_left
      · (intro w hSw; (try dsimp only at hSw); go_simp; try with_reducible rfl)
      simp only [List.getElem_toArray, List.getElem_cons_zero, List.getElem_cons_succ, Act.put, List.setIfInBounds_toArray, List.set_cons_zero, List.set_cons_succ]
      refine wpAnyH_take (i := 8) (v := ?_) rfl (by kernel_rfl) (by kernel_rfl) (by kernel_rfl) (fun _ _ _ h => h) (Or.inl ⟨by rfl, ?_⟩) hS0 ?_
      rotate_left
      · (intro w hSw; (try dsimp only at hSw); go_simp; try with_reducible rfl)
      simp only [List.getElem_toArray, List.getElem_cons_zero, List.getElem_cons_succ, Act.put, List.setIfInBounds_toArray, List.set_cons_zero, List.set_cons_succ]
      refine wpAnyH_ready (rs := [2]) (by kernel_rfl) (by simp) ?_
      refine AllReadyH.cons rfl (fun K hK => ?_) AllReadyH.nil
      go_simp
      refine (rmRead_calls hm gm (8192 * np) x F _ hx hS0.2.2.1).mono ?_
      rintro e w' ⟨rfl, rfl⟩
      (try go_simp)
      refine hK.out _ _ hS0 (fun _ => ?_)
      clear hK K
      simp only [List.getElem_toArray, List.getElem_cons_zero, List.getElem_cons_succ, Act.put, List.setIfInBounds_toArray, List.set_cons_zero, List.set_cons_succ]
      refine wpAnyH_take (i := 9) (v := ?_) rfl (by kernel_rfl) (by kernel_rfl) (by kernel_rfl) (fun _ _ _ h => h) (Or.inl ⟨by rfl, ?_⟩) hS0 ?_
      rotate_left
      · (intro w hSw; (try dsimp only at hSw); go_simp; try with_reducible rfl)
      simp only [List.getElem_toArray, List.getElem_cons_zero, List.getElem_cons_succ, Act.put, List.setIfInBounds_toArray, List.set_cons_zero, List.set_cons_succ]
      refine wpAnyH_take (i := 10) (v := ?_) rfl (by kernel_rfl) (by kernel_rfl) (by kernel_rfl) (fun _ _ _ h => h) (Or.inl ⟨by rfl, ?_⟩) hS0 ?_
      rotate_left
      · (intro w hSw; (try dsimp only at hSw); go_simp; try with_reducible rfl)
      simp only [List.getElem_toArray, List.getElem_cons_zero, List.getElem_cons_succ, Act.put, List.setIfInBounds_toArray, List.set_cons_zero, List.set_cons_succ]
      refine wpAnyH_take (i := 11) (v := ?_) rfl (by kernel_rfl) (by kernel_rfl) (by kernel_rfl) (fun _ _ _ h => h) (Or.inl ⟨by rfl, ?_⟩) hS0 ?_
      rotate_left
      · (intro w hSw; (try dsimp only at hSw); go_simp; try with_reducible rfl)
      simp only [List.getElem_toArray, List.getElem_cons_zero, List.getElem_cons_succ, Act.put, List.setIfInBounds_toArray, List.set_cons_zero, List.set_cons_succ]
      refine wpAnyH_take (i := 12) (v := ?_) rfl (by kernel_rfl) (by kernel_rfl) (by kernel_rfl) (fun _ _ _ h => h) (Or.inl ⟨by rfl, ?_⟩) hS0 ?_
      rotate_left
      · (intro w hSw; (try dsimp only at hSw); go_simp; try with_reducible rfl)
      simp only [List.getElem_toArray, List.getElem_cons_zero, List.getElem_cons_succ, Act.put, List.setIfInBounds_toArray, List.set_cons_zero, List.set_cons_succ]
      refine wpAnyH_take (i := 14) (v := ?_) rfl (by kernel_rfl) (by kernel_rfl) (by kernel_rfl) (fun _ _ _ h => h) (Or.inl ⟨by rfl, ?_⟩) hS0 ?_
      rotate_left
      · (intro w hSw; (try dsimp only at hSw); go_simp; try with_reducible rfl)
      simp only [List.getElem_toArray, List.getElem_cons_zero, List.getElem_cons_succ, Act.put, List.setIfInBounds_toArray, List.set_cons_zero, List.set_cons_succ]
      refine wpAnyH_take (i := 15) (v := ?_) rfl (by kernel_rfl) (by kernel_rfl) (by kernel_rfl) (fun _ _ _ h => h) (Or.inl ⟨by rfl, ?_⟩) hS0 ?_
      rotate_left
      · (intro w hSw; (try dsimp only at hSw); go_simp; try with_reducible rfl)
      simp only [List.getElem_toArray, List.getElem_cons_zero, List.getElem_cons_succ, Act.put, List.setIfInBounds_toArray, List.set_cons_zero, List.set_cons_succ]
      refine wpAnyH_take (i := 16) (v := ?_) rfl (by kernel_rfl) (by kernel_rfl) (by kernel_rfl) (fun _ _ _ h => h) (Or.inl ⟨by rfl, ?_⟩) hS0 ?_
      rotate_left
      · (intro w hSw; (try dsimp only at hSw); go_simp; try with_reducible rfl)
      simp only [List.getElem_toArray, List.getElem_cons_zero, List.getElem_cons_succ, Act.put, List.setIfInBounds_toArray, List.set_cons_zero, List.set_cons_succ]
      refine wpAnyH_take (i := 17) (v := ?_) rfl (by kernel_rfl) (by kernel_rfl) (by kernel_rfl) (fun _ _ _ h => h) (Or.inl ⟨by rfl, ?_⟩) hS0 ?_
      rotate_left
      · (intro w hSw; (try dsimp only at hSw); go_simp; try with_reducible rfl)
      simp only [List.getElem_toArray, List.getElem_cons_zero, List.getElem_cons_succ, Act.put, List.setIfInBounds_toArray, List.set_cons_zero, List.set_cons_succ]
      refine wpAnyH_ready (rs := [13]) (by kernel_rfl) (by simp) ?_
      refine AllReadyH.cons rfl (fun K hK => ?_) AllReadyH.nil
      go_simp
      refine (rmRead_calls hm gm (8192 * np) x F _ hx hS0.2.2.1).mono ?_
      rintro e w' ⟨rfl, rfl⟩
      (try go_simp)
      refine hK.out _ _ hS0 (fun _ => ?_)
      clear hK K
      simp only [List.getElem_toArray, List.getElem_cons_zero, List.getElem_cons_succ, Act.put, List.setIfInBounds_toArray, List.set_cons_zero, List.set_cons_succ]
      refine wpAnyH_ready (rs := [18]) (by kernel_rfl) (by simp) ?_
      refine AllReadyH.cons rfl (fun K hK => ?_) AllReadyH.nil
      go_simp
      refine (ctRead_calls 8192 8192 r (some ⟨gr, 0, none⟩) F _ (by omega) (by omega) (RW.nums hS0.2.1)).mono ?_
      rintro e v1 ⟨rfl, hb1⟩
      (try go_simp)
      refine hK.out _ _ ⟨(by first | exact hS0.1.below hb1 hS0.1.lt | exact hS0.1.trans (hb1.mono hS0.1.size) | exact (hb1.cell (cell_lt hS0.1)).trans hS0.1 | exact hS0.1.below hb1 (Nat.le_refl _) | exact hS0.1.low hb1 | exact hS0.1.below hb1), (by first | exact hS0.2.1.below hb1 hS0.2.1.lt | exact hS0.2.1.trans (hb1.mono hS0.2.1.size) | exact (hb1.cell (cell_lt hS0.2.1)).trans hS0.2.1 | exact hS0.2.1.below hb1 (Nat.le_refl _) | exact hS0.2.1.low hb1 | exact hS0.2.1.below hb1), (by first | exact hS0.2.2.1.below hb1 hS0.2.2.1.lt | exact hS0.2.2.1.trans (hb1.mono hS0.2.2.1.size) | exact (hb1.cell (cell_lt hS0.2.2.1)).trans hS0.2.2.1 | exact hS0.2.2.1.below hb1 (Nat.le_refl _) | exact hS0.2.2.1.low hb1 | exact hS0.2.2.1.below hb1), (by first | exact hS0.2.2.2.1.below hb1 hS0.2.2.2.1.lt | exact hS0.2.2.2.1.trans (hb1.mono hS0.2.2.2.1.size) | exact (hb1.cell (cell_lt hS0.2.2.2.1)).trans hS0.2.2.2.1 | exact hS0.2.2.2.1.below hb1 (Nat.le_refl _) | exact hS0.2.2.2.1.low hb1 | exact hS0.2.2.2.1.below hb1), (by first | exact hS0.2.2.2.2.below hb1 hS0.2.2.2.2.lt | exact hS0.2.2.2.2.trans (hb1.mono hS0.2.2.2.2.size) | exact (hb1.cell (cell_lt hS0.2.2.2.2)).trans hS0.2.2.2.2 | exact hS0.2.2.2.2.below hb1 (Nat.le_refl _) | exact hS0.2.2.2.2.low hb1 | exact hS0.2.2.2.2.below hb1)⟩ (fun hS1 => ?_)
      clear hK K
      clear hb1 hS0
      simp only [List.getElem_toArray, List.getElem_cons_zero, List.getElem_cons_succ, Act.put, List.setIfInBounds_toArray, List.set_cons_zero, List.set_cons_succ]
      refine wpAnyH_take (i := 19) (v := ?_) rfl (by kernel_rfl) (by kernel_rfl) (by kernel_rfl) (fun _ _ _ h => h) (Or.inl ⟨by rfl, ?_⟩) hS1 ?_
      rotate_left
      · (intro w hSw; (try dsimp only at hSw); go_simp; try with_reducible rfl)
      simp only [List.getElem_toArray, List.getElem_cons_zero, List.getElem_cons_succ, Act.put, List.setIfInBounds_toArray, List.set_cons_zero, List.set_cons_succ]
      refine wpAnyH_take (i := 20) (v := ?_) rfl (by kernel_rfl) (by kernel_rfl) (by kernel_rfl) (fun _ _ _ h => h) (Or.inl ⟨by rfl, ?_⟩) hS1 ?_
      rotate_left
      · (intro w hSw; (try dsimp only at hSw); go_simp; try with_reducible rfl)
      simp only [List.getElem_toArray, List.getElem_cons_zero, List.getElem_cons_succ, Act.put, List.setIfInBounds_toArray, List.set_cons_zero, List.set_cons_succ]
      refine wpAnyH_take (i := 21) (v := ?_) rfl (by kernel_rfl) (by kernel_rfl) (by kernel_rfl) (fun _ _ _ h => h) (Or.inl ⟨by rfl, ?_⟩) hS1 ?_
      rotate_left
      · (intro w hSw; (try dsimp only at hSw); go_simp; try with_reducible rfl)
      simp only [List.getElem_toArray, List.getElem_cons_zero, List.getElem_cons_succ, Act.put, List.setIfInBounds_toArray, List.set_cons_zero, List.set_cons_succ]
      refine wpAnyH_take (i := 22) (v := ?_) rfl (by kernel_rfl) (by kernel_rfl) (by kernel_rfl) (fun _ _ _ h => h) (Or.inl ⟨by rfl, ?_⟩) hS1 ?_
      rotate_left
      · (intro w hSw; (try dsimp only at hSw); go_simp; try with_reducible rfl)
      simp only [List.getElem_toArray, List.getElem_cons_zero, List.getElem_cons_succ, Act.put, List.setIfInBounds_toArray, List.set_cons_zero, List.set_cons_succ]
      refine wpAnyH_take (i := 24) (v := ?_) rfl (by kernel_rfl) (by kernel_rfl) (by kernel_rfl) (fun _ _ _ h => h) (Or.inl ⟨by rfl, ?_⟩) hS1 ?_
      rotate_left
      · (intro w hSw; (try dsimp only at hSw); go_simp; try with_reducible rfl)
      simp only [List.getElem_toArray, List.getElem_cons_zero, List.getElem_cons_succ, Act.put, List.setIfInBounds_toArray, List.set_cons_zero, List.set_cons_succ]
      refine wpAnyH_ready (rs := [23]) (by kernel_rfl) (by simp) ?_
      refine AllReadyH.cons rfl (fun K hK => ?_) AllReadyH.nil
      go_simp
      refine (rmPieces_calls hm gm (8192 * np) F _ hS1.2.2.1).mono ?_
      rintro e v2 ⟨vo, rfl, hPo, hb2⟩
      rw [HPS.out] at hPo
      obtain ⟨ao, co, rfl⟩ := hPo.slice
      obtain ⟨B0, hB0⟩ : ∃ B0, PL v2 B0 (.slice ao ps.length co) ps F := ⟨_, hPo⟩
      rw [HNP.out] at hB0 ⊢
      (try go_simp)
      refine hK.out _ _ ⟨(by first | exact hS1.1.below hb2 hS1.1.lt | exact hS1.1.trans (hb2.mono hS1.1.size) | exact (hb2.cell (cell_lt hS1.1)).trans hS1.1 | exact hS1.1.below hb2 (Nat.le_refl _) | exact hS1.1.low hb2 | exact hS1.1.below hb2), (by first | exact hS1.2.1.below hb2 hS1.2.1.lt | exact hS1.2.1.trans (hb2.mono hS1.2.1.size) | exact (hb2.cell (cell_lt hS1.2.1)).trans hS1.2.1 | exact hS1.2.1.below hb2 (Nat.le_refl _) | exact hS1.2.1.low hb2 | exact hS1.2.1.below hb2), (by first | exact hS1.2.2.1.below hb2 hS1.2.2.1.lt | exact hS1.2.2.1.trans (hb2.mono hS1.2.2.1.size) | exact (hb2.cell (cell_lt hS1.2.2.1)).trans hS1.2.2.1 | exact hS1.2.2.1.below hb2 (Nat.le_refl _) | exact hS1.2.2.1.low hb2 | exact hS1.2.2.1.below hb2), (by first | exact hS1.2.2.2.1.below hb2 hS1.2.2.2.1.lt | exact hS1.2.2.2.1.trans (hb2.mono hS1.2.2.2.1.size) | exact (hb2.cell (cell_lt hS1.2.2.2.1)).trans hS1.2.2.2.1 | exact hS1.2.2.2.1.below hb2 (Nat.le_refl _) | exact hS1.2.2.2.1.low hb2 | exact hS1.2.2.2.1.below hb2), (by first | exact hS1.2.2.2.2.below hb2 hS1.2.2.2.2.lt | exact hS1.2.2.2.2.trans (hb2.mono hS1.2.2.2.2.size) | exact (hb2.cell (cell_lt hS1.2.2.2.2)).trans hS1.2.2.2.2 | exact hS1.2.2.2.2.below hb2 (Nat.le_refl _) | exact hS1.2.2.2.2.low hb2 | exact hS1.2.2.2.2.below hb2)⟩ (fun hS2 => ?_)
      clear hK K
      have hT : v2.cell? ⟨gr, r, none⟩ = some (.int .u8 (F r)) ∧ RW v2 gr 8192 F ∧ RamB v2 hm gm (8192 * np) F ∧ PL v2 w3.heap.size (.slice ap np cpp) ps F ∧ Below w.heap.size w v2 ∧ PL v2 B0 (.slice ao np co) ps F := ⟨hS2.1, hS2.2.1, hS2.2.2.1, hS2.2.2.2.1, hS2.2.2.2.2, hB0⟩
      refine wpAnyH_mono (S' := fun W => W.cell? ⟨gr, r, none⟩ = some (.int .u8 (F r)) ∧ RW W gr 8192 F ∧ RamB W hm gm (8192 * np) F ∧ PL W w3.heap.size (.slice ap np cpp) ps F ∧ Below w.heap.size w W ∧ PL W B0 (.slice ao np co) ps F) (fun _ h => ⟨h.1, h.2.1, h.2.2.1, h.2.2.2.1, h.2.2.2.2.1⟩) ?_
      clear hS2
      have hS2 := hT
      clear hT
      clear hb2 hS1
      simp only [List.getElem_toArray, List.getElem_cons_zero, List.getElem_cons_succ, Act.put, List.setIfInBounds_toArray, List.set_cons_zero, List.set_cons_succ]
      refine wpAnyH_ready (rs := [25]) (by kernel_rfl) (by simp) ?_
      refine AllReadyH.cons rfl (fun K hK => ?_) AllReadyH.nil
      go_simp
      refine (same_PL hS2.2.2.2.2.2 hS2.2.2.2.1 (by rw [HNP.out]; omega) (fun k hk => by have := hpn k hk; unfold maxLen; omega)).mono ?_
      rintro e v3 ⟨rfl, hb3⟩
      (try go_simp)
      refine hK.out _ _ ⟨(by first | exact hS2.1.below hb3 hS2.1.lt | exact hS2.1.trans (hb3.mono hS2.1.size) | exact (hb3.cell (cell_lt hS2.1)).trans hS2.1 | exact hS2.1.below hb3 (Nat.le_refl _) | exact hS2.1.low hb3 | exact hS2.1.below hb3), (by first | exact hS2.2.1.below hb3 hS2.2.1.lt | exact hS2.2.1.trans (hb3.mono hS2.2.1.size) | exact (hb3.cell (cell_lt hS2.2.1)).trans hS2.2.1 | exact hS2.2.1.below hb3 (Nat.le_refl _) | exact hS2.2.1.low hb3 | exact hS2.2.1.below hb3), (by first | exact hS2.2.2.1.below hb3 hS2.2.2.1.lt | exact hS2.2.2.1.trans (hb3.mono hS2.2.2.1.size) | exact (hb3.cell (cell_lt hS2.2.2.1)).trans hS2.2.2.1 | exact hS2.2.2.1.below hb3 (Nat.le_refl _) | exact hS2.2.2.1.low hb3 | exact hS2.2.2.1.below hb3), (by first | exact hS2.2.2.2.1.below hb3 hS2.2.2.2.1.lt | exact hS2.2.2.2.1.trans (hb3.mono hS2.2.2.2.1.size) | exact (hb3.cell (cell_lt hS2.2.2.2.1)).trans hS2.2.2.2.1 | exact hS2.2.2.2.1.below hb3 (Nat.le_refl _) | exact hS2.2.2.2.1.low hb3 | exact hS2.2.2.2.1.below hb3), (by first | exact hS2.2.2.2.2.1.below hb3 hS2.2.2.2.2.1.lt | exact hS2.2.2.2.2.1.trans (hb3.mono hS2.2.2.2.2.1.size) | exact (hb3.cell (cell_lt hS2.2.2.2.2.1)).trans hS2.2.2.2.2.1 | exact hS2.2.2.2.2.1.below hb3 (Nat.le_refl _) | exact hS2.2.2.2.2.1.low hb3 | exact hS2.2.2.2.2.1.below hb3), (by first | exact hS2.2.2.2.2.2.below hb3 hS2.2.2.2.2.2.lt | exact hS2.2.2.2.2.2.trans (hb3.mono hS2.2.2.2.2.2.size) | exact (hb3.cell (cell_lt hS2.2.2.2.2.2)).trans hS2.2.2.2.2.2 | exact hS2.2.2.2.2.2.below hb3 (Nat.le_refl _) | exact hS2.2.2.2.2.2.low hb3 | exact hS2.2.2.2.2.2.below hb3)⟩ (fun hS3 => ?_)
      clear hK K
      clear hb3 hS2
      simp only [List.getElem_toArray, List.getElem_cons_zero, List.getElem_cons_succ, Act.put, List.setIfInBounds_toArray, List.set_cons_zero, List.set_cons_succ]
      refine wpAnyH_take (i := 26) (v := ?_) rfl (by kernel_rfl) (by kernel_rfl) (by kernel_rfl) (fun _ _ _ h => h) (Or.inl ⟨by rfl, ?_⟩) hS3 ?_
      rotate_left
      · (intro w hSw; (try dsimp only at hSw); go_simp; try with_reducible rfl)
      simp only [List.getElem_toArray, List.getElem_cons_zero, List.getElem_cons_succ, Act.put, List.setIfInBounds_toArray, List.set_cons_zero, List.set_cons_succ]
      refine wpAnyH_take (i := 27) (v := ?_) rfl (by kernel_rfl) (by kernel_rfl) (by kernel_rfl) (fun _ _ _ h => h) (Or.inl ⟨by rfl, ?_⟩) hS3 ?_
      rotate_left
      · (intro w hSw; (try dsimp only at hSw); go_simp; try with_reducible rfl)
      simp only [List.getElem_toArray, List.getElem_cons_zero, List.getElem_cons_succ, Act.put, List.setIfInBounds_toArray, List.set_cons_zero, List.set_cons_succ]
      refine wpAnyH_done (by kernel_rfl) ?_ _
      have c0 := hS3.1
      have hR6 := hS3.2.1
      have hM6 := hS3.2.2.1
      have hP6 := hS3.2.2.2.1
      have hb06 := hS3.2.2.2.2.1
      have hPo2 := hS3.2.2.2.2.2
      clear hS3
      go_wp2_with fail
      go_ret
      exact ⟨rfl, hb06⟩
section
open Go.ChangeShapes Go.WideShapes Go.ChangeAt
variable {H : Type} {enc : TypeId × Value → H} {W : World} {base : Nat}
theorem walk_TopLaid {v0 v1 : Value} {d0 d1 : DataW H} {p0 p1 : List MemPlace}
    (_hsh : W.ShapedOpen Try.prog) (_hsz : (DataW.weightsEach Try.prog [22, 23] [d0, d1]).all (· ≤ reachBytes) = true)
    (hv0 : Value.okWide Try.prog W .any base 22 v0) (hd0 : DataW.Trod enc Try.prog W 0 (fun _ => true) true 22 v0 d0 p0) (hv1 : Value.okWide Try.prog W .any base 23 v1) (hd1 : DataW.Trod enc Try.prog W 0 (fun _ => true) true 23 v1 d1 p1) :
    Calls Try.prog 3 #[v0, v1] W fun e W' => e = .returned (.bool true) ∧ Below W.heap.size W W' := by
  obtain ⟨a, n, c, At, O, Ln, Cp, By, rfl, hP, hn, hr⟩ := open_pieces hv0 hd0
  obtain ⟨x1, rfl, h1⟩ := open_u16 Try.underlying23 hv1 hd1
  exact topLaid_calls a n c At O Ln Cp By x1 W hn h1 (fun i hi => by have := hr i hi; unfold maxLen at this; omega) (fun i hi => by have := hr i hi; omega) hP
end
end Go.Proofs.Ytjgobmgoidioiaa
