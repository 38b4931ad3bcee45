/-
  gannetref25: Of.
-/
import Derived.Test.YtelmkpcocaogjaaDoorSta8
import Derived.Test.YtelmkpcocaogjaaDoorSta3
namespace Go.Proofs.YtelmkpcocaogjaaDoor
set_option linter.unusedSimpArgs false
set_option linter.unusedVariables false
open Go.RowKit Pl

theorem rOfB_short (o : Option Addr) (n c : Nat) (w : World) (h : n < 17) :
    Calls Tryd.prog 19 #[.slice o n c] w fun e w' => e = .returned (.tuple #[.agg zst, .int .i64 4]) ∧ Below w.heap.size w w' := by
  have hZ : Blk (w.alloc (.cells #[.int .u8 0, .int .u8 0, .int .u8 0, .int .u8 0, .int .u8 0, .int .u16 0, .int .u8 0, .int .u8 0, .int .u8 0, .int .u8 0, .int .u8 0, .int .u8 0, .int .u8 0, .int .u8 0, .int .u8 0, .bool false] 25)) w.heap.size 25 zst := Blk.new _ _ _
  have hb : Below w.heap.size w (w.alloc (.cells #[.int .u8 0, .int .u8 0, .int .u8 0, .int .u8 0, .int .u8 0, .int .u16 0, .int .u8 0, .int .u8 0, .int .u8 0, .int .u8 0, .int .u8 0, .int .u8 0, .int .u8 0, .int .u8 0, .int .u8 0, .bool false] 25)) := Bl.alloc (Below.refl _ _) _
  have i1 : (n : Int) < 17 := by omega
  go_enter Tryd.func19, Tryd.ntmps19
  go_upto_region 2 with fail
  generalize (w.alloc (.cells #[.int .u8 0, .int .u8 0, .int .u8 0, .int .u8 0, .int .u8 0, .int .u16 0, .int .u8 0, .int .u8 0, .int .u8 0, .int .u8 0, .int .u8 0, .int .u8 0, .int .u8 0, .int .u8 0, .int .u8 0, .bool false] 25)) = w0 at *
  go_wp2_with (refine wpList_store_row rfl 25 _ _ rfl w.heap.size zst rfl rfl 25 _ hZ (by kernel_rfl) rfl (by kernel_rfl) ?_)
  exact bodyPost_ret (results_ct rfl rfl (hZ.setRow _) Tryd.underlying25 rfl (by kernel_rfl)) rfl ⟨rfl, below_setRow hb (Nat.le_refl _) _⟩
theorem rOfB_long (o : Option Addr) (n c : Nat) (w : World) (h : 17 < n) :
    Calls Tryd.prog 19 #[.slice o n c] w fun e w' => e = .returned (.tuple #[.agg zst, .int .i64 2]) ∧ Below w.heap.size w w' := by
  have hZ : Blk (w.alloc (.cells #[.int .u8 0, .int .u8 0, .int .u8 0, .int .u8 0, .int .u8 0, .int .u16 0, .int .u8 0, .int .u8 0, .int .u8 0, .int .u8 0, .int .u8 0, .int .u8 0, .int .u8 0, .int .u8 0, .int .u8 0, .bool false] 25)) w.heap.size 25 zst := Blk.new _ _ _
  have hb : Below w.heap.size w (w.alloc (.cells #[.int .u8 0, .int .u8 0, .int .u8 0, .int .u8 0, .int .u8 0, .int .u16 0, .int .u8 0, .int .u8 0, .int .u8 0, .int .u8 0, .int .u8 0, .int .u8 0, .int .u8 0, .int .u8 0, .int .u8 0, .bool false] 25)) := Bl.alloc (Below.refl _ _) _
  have i1 : (decide ((n : Int) < 17)) = false := by rw [decide_eq_false_iff_not]; omega
  have i2 : (17 : Int) < (n : Int) := by omega
  go_enter Tryd.func19, Tryd.ntmps19
  go_upto_region 4 with fail
  generalize (w.alloc (.cells #[.int .u8 0, .int .u8 0, .int .u8 0, .int .u8 0, .int .u8 0, .int .u16 0, .int .u8 0, .int .u8 0, .int .u8 0, .int .u8 0, .int .u8 0, .int .u8 0, .int .u8 0, .int .u8 0, .int .u8 0, .bool false] 25)) = w0 at *
  go_wp2_with (refine wpList_store_row rfl 25 _ _ rfl w.heap.size zst rfl rfl 25 _ hZ (by kernel_rfl) rfl (by kernel_rfl) ?_)
  exact bodyPost_ret (results_ct rfl rfl (hZ.setRow _) Tryd.underlying25 rfl (by kernel_rfl)) rfl ⟨rfl, below_setRow hb (Nat.le_refl _) _⟩
theorem cellAl {w : World} {p : Addr} {v : Value} {o : Obj} (h : w.cell? p = some v) : (w.alloc o).cell? p = some v := (World.cell?_alloc_some w p o (by rw [h]; rfl)).trans h
theorem wrap16 (x : Nat) (h : x < 65536) : IntKind.u16.wrap (x : Int) = (x : Int) := by rw [IntKind.wrap_u16]; omega
set_option maxRecDepth 100000 in
set_option maxHeartbeats 2000000 in
theorem rOfB_calls (o : Option Addr) (c : Nat) (B : Nat → Nat) (w : World) (hL : NumsAt w .u8 o 17 fun i => (B i : Int)) (hB : ∀ j, j < 17 → B j < 256) :
    Calls Tryd.prog 19 #[.slice o 17 c] w fun e w' => e = .returned (ofR B) ∧ Below w.heap.size w w' := by
  have hZ : Blk (w.alloc (.cells #[.int .u8 0, .int .u8 0, .int .u8 0, .int .u8 0, .int .u8 0, .int .u16 0, .int .u8 0, .int .u8 0, .int .u8 0, .int .u8 0, .int .u8 0, .int .u8 0, .int .u8 0, .int .u8 0, .int .u8 0, .bool false] 25)) w.heap.size 25 zst := Blk.new _ _ _
  have hb : Below w.heap.size w (w.alloc (.cells #[.int .u8 0, .int .u8 0, .int .u8 0, .int .u8 0, .int .u8 0, .int .u16 0, .int .u8 0, .int .u8 0, .int .u8 0, .int .u8 0, .int .u8 0, .int .u8 0, .int .u8 0, .int .u8 0, .int .u8 0, .bool false] 25)) := Bl.alloc (Below.refl _ _) _
  have hLr := hL.below hb (Nat.le_refl _)
  obtain ⟨bl, off, ho, _, _⟩ := hLr 0 (by omega)
  subst ho
  have q := fun j (hj : j < 17) => (show (w.alloc (.cells #[.int .u8 0, .int .u8 0, .int .u8 0, .int .u8 0, .int .u8 0, .int .u16 0, .int .u8 0, .int .u8 0, .int .u8 0, .int .u8 0, .int .u8 0, .int .u8 0, .int .u8 0, .int .u8 0, .int .u8 0, .bool false] 25)).cell? ⟨bl, off + j, none⟩ = some (.int .u8 (B j : Int)) from by obtain ⟨_, _, h1, _, h2⟩ := hLr j hj; cases h1; exact h2)
  have x16 := q 16 (by omega)
  have hblt : bl < w.heap.size := by
    obtain ⟨b', off', ho', hlt', _⟩ := hL 0 (by omega)
    cases ho'
    exact hlt'
  by_cases hF : B 16 < 2
  · have HE : Hid (ofR B = .tuple #[.agg (stA (unb B)), .int .i64 0]) := if_pos hF
    have x0 : (w.alloc (.cells #[.int .u8 0, .int .u8 0, .int .u8 0, .int .u8 0, .int .u8 0, .int .u16 0, .int .u8 0, .int .u8 0, .int .u8 0, .int .u8 0, .int .u8 0, .int .u8 0, .int .u8 0, .int .u8 0, .int .u8 0, .bool false] 25)).cell? ⟨bl, off, none⟩ = some (.int .u8 (B 0 : Int)) := q 0 (by omega)
    have x1 := q 1 (by omega)
    have x2 := q 2 (by omega)
    have x3 := q 3 (by omega)
    have x4 := q 4 (by omega)
    have x5 := q 5 (by omega)
    have x6 := q 6 (by omega)
    have x15 := q 15 (by omega)
    have i1 : (decide ((1 : Int) < (B 16 : Int))) = false := by rw [decide_eq_false_iff_not]; omega
    have e5 := wrap16 (B 5) (by have := hB 5 (by omega); omega)
    have e6 := wrap16 (B 6) (by have := hB 6 (by omega); omega)
    obtain ⟨u, hu⟩ : ∃ u, B 5 + 256 * B 6 = u := ⟨_, rfl⟩
    have eM : IntKind.u16.wrap (256 * (B 6 : Int)) = 256 * (B 6 : Int) := by have := hB 6 (by omega); rw [IntKind.wrap_u16]; omega
    have eS : IntKind.u16.wrap ((B 5 : Int) + 256 * (B 6 : Int)) = (u : Int) := by have := hB 6 (by omega); have := hB 5 (by omega); rw [IntKind.wrap_u16]; omega
    have e16 : ((B 16 : Int) == 1) = (B 16 == 1) := by
      by_cases h : B 16 = 1
      · rw [h]; rfl
      · rw [show B 16 = 0 from by omega]; rfl
    have HU : Hid (unb B 5 = u) := hu
    have hF2 := hide hF
    clear hu q hF hLr
    go_enter Tryd.func19, Tryd.ntmps19
    go_upto_region 7 with fail
    generalize (w.alloc (.cells #[.int .u8 0, .int .u8 0, .int .u8 0, .int .u8 0, .int .u8 0, .int .u16 0, .int .u8 0, .int .u8 0, .int .u8 0, .int .u8 0, .int .u8 0, .int .u8 0, .int .u8 0, .int .u8 0, .int .u8 0, .bool false] 25)) = w0 at *
    go_cut [4] (fun s4 wx => ∃ g4, s4 = .pointer (some ⟨g4, 0, none⟩) ∧ w.heap.size < g4 ∧ Blk wx w.heap.size 25 zst ∧ Blk wx g4 25 (arr 16 (skC (unb B) 0)) ∧ Below w.heap.size w wx)
    case first =>
      go_region_held3 (fun W => W.cell? ⟨bl, off, none⟩ = some (.int .u8 (B 0 : Int)) ∧ W.cell? ⟨bl, off + 1, none⟩ = some (.int .u8 (B 1 : Int)) ∧ W.cell? ⟨bl, off + 2, none⟩ = some (.int .u8 (B 2 : Int)) ∧ W.cell? ⟨bl, off + 3, none⟩ = some (.int .u8 (B 3 : Int)) ∧ W.cell? ⟨bl, off + 4, none⟩ = some (.int .u8 (B 4 : Int)) ∧ W.cell? ⟨bl, off + 5, none⟩ = some (.int .u8 (B 5 : Int)) ∧ W.cell? ⟨bl, off + 6, none⟩ = some (.int .u8 (B 6 : Int)) ∧ W.cell? ⟨bl, off + 15, none⟩ = some (.int .u8 (B 15 : Int)) ∧ W.cell? ⟨bl, off + 16, none⟩ = some (.int .u8 (B 16 : Int)))
        (first | exact ⟨x0, x1, x2, x3, x4, x5, x6, x15, x16⟩ | exact ⟨cellAl x0, cellAl x1, cellAl x2, cellAl x3, cellAl x4, cellAl x5, cellAl x6, cellAl x15, cellAl x16⟩) (fail)
      clear x0 x1 x2 x3 x4 x5 x6 x15 x16 e5 e6 eM
      go_wp2_with fail
      go_meet
      refine ⟨_, rfl, Nat.lt_of_le_of_lt (Nat.le_refl _) hZ.lt, Blk.drew (Blk.alloc hZ _), ?_, Below.drew (Bl.alloc hb _)⟩
      refine Blk.drew ?_
      rw [show arr 16 (skC (unb B) 0) = #[.int .u8 (B 0 : Int), .int .u8 (B 1 : Int), .int .u8 (B 2 : Int), .int .u8 (B 3 : Int), .int .u8 (B 4 : Int), .int .u16 (unb B 5 : Int), .int .u8 0, .int .u8 0, .int .u8 0, .int .u8 0, .int .u8 0, .int .u8 0, .int .u8 0, .int .u8 0, .int .u8 (B 15 : Int), .bool (B 16 == 1)] from rfl, HU.out]
      exact Blk.new _ _ _
    case rest =>
      obtain ⟨g4, rfl, hgl, hZc, hLc, hbc⟩ := hcut
      have hok := unb_ok hB hF2.out
      clear hZ hb x0 x1 x2 x3 x4 x5 x6 x15 x16 e5 e6 eM eS e16 i1
      go_wp2_with fail
      go_loopw [5] (fun i wr => ∃ k : Nat, k ≤ 8 ∧ i = .int .i64 (k : Int) ∧ Blk wr w.heap.size 25 zst ∧ Blk wr g4 25 (arr 16 (skC (unb B) k)) ∧ Below w.heap.size w wr) (fun i _ => 8 - (intOf i).toNat)
      case atStart => exact ⟨0, Nat.zero_le _, rfl, hZc, hLc, hbc⟩
      case round =>
        obtain ⟨k, hk, rfl, hZr, hVr, hbr⟩ := hrel
        clear hZc hLc hbc
        by_cases hlt : k < 8
        · obtain ⟨q, hq⟩ : ∃ q, 7 + k = q := ⟨_, rfl⟩
          have e1 : (7 : Int) + (k : Int) = (q : Int) := by omega
          obtain ⟨_, _, ho, _, hc⟩ := hL.below hbr (Nat.le_refl _) q (by omega)
          cases ho
          have hV2 := hVr.set_ (6 + k) (.int .u8 (unb B (6 + k) : Int))
          rw [arr_set 16 _ (6 + k) _ (by omega), arr_congr (skC_step (unb B) k hlt)] at hV2
          have hZ2 := hZr.far (p := ⟨g4, 6 + k, none⟩) (by dsimp only; omega) (.int .u8 (unb B (6 + k) : Int))
          have hb2 := hbr.setCell (p := ⟨g4, 6 + k, none⟩) (by dsimp only; omega) (.int .u8 (unb B (6 + k) : Int))
          have hu : unb B (6 + k) = B q := by
            unfold unb
            rw [if_neg (by omega), if_neg (by omega)]
            congr 1
            omega
          rw [hu] at hV2 hZ2 hb2
          have c0 : wr.cell? ⟨g4, 6 + k, none⟩ = some (.int .u8 0) := by
            rw [hVr.cell, arr_get 16 _ (6 + k) (by omega)]
            unfold skC
            rw [if_neg (by omega), if_neg (by omega), if_neg (by omega)]
            rfl
          have f0 : wr.frozen? ⟨g4, 6 + k, none⟩ = false := hVr.frozen (6 + k)
          have hlt' : (k : Int) < 8 := by omega
          have hq17 : (q : Int) < 17 := by omega
          clear hq hu hZr hVr hbr
          go_wp2_with fail
          go_roundw
          case rel => exact ⟨k + 1, by omega, by go_num, hZ2, hV2, hb2⟩
          case measure => simp [intOf]; omega
        · obtain rfl : k = 8 := by omega
          rw [skC_all] at hVr
          go_wp2_with (first
            | (refine wpList_load_row rfl 25 _ rfl g4 rfl _ (stA (unb B)) (0, 0) _ hVr Tryd.underlying25 rfl (by kernel_rfl) ?_)
            | (refine wpList_store_row rfl 25 _ _ rfl w.heap.size (stA (unb B)) rfl rfl 25 _ hZr (by kernel_rfl) rfl (by kernel_rfl) ?_))
          exact bodyPost_ret (results_ct rfl rfl (hZr.setRow _) Tryd.underlying25 rfl (by kernel_rfl)) rfl ⟨by rw [HE.out]; rfl, below_setRow hbr (Nat.le_refl _) _⟩
  · have HE : Hid (ofR B = .tuple #[.agg zst, .int .i64 3]) := if_neg hF
    have i1 : (1 : Int) < (B 16 : Int) := by omega
    clear q hF hLr
    go_enter Tryd.func19, Tryd.ntmps19
    go_upto_region 6 with fail
    generalize (w.alloc (.cells #[.int .u8 0, .int .u8 0, .int .u8 0, .int .u8 0, .int .u8 0, .int .u16 0, .int .u8 0, .int .u8 0, .int .u8 0, .int .u8 0, .int .u8 0, .int .u8 0, .int .u8 0, .int .u8 0, .int .u8 0, .bool false] 25)) = w0 at *
    go_wp2_with (refine wpList_store_row rfl 25 _ _ rfl w.heap.size zst rfl rfl 25 _ hZ (by kernel_rfl) rfl (by kernel_rfl) ?_)
    exact bodyPost_ret (results_ct rfl rfl (hZ.setRow _) Tryd.underlying25 rfl (by kernel_rfl)) rfl ⟨by rw [HE.out]; rfl, below_setRow hb (Nat.le_refl _) _⟩
end Go.Proofs.YtelmkpcocaogjaaDoor
