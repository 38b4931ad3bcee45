/-
  Package state: Of.
-/
import Derived.Test.YtelmkpcocaogjaaDoorSta7
import Derived.BigQuiet
import Derived.Deep.QuietTactic
namespace Go.Proofs.YtelmkpcocaogjaaDoor
set_option linter.unusedSimpArgs false
set_option linter.unusedVariables false
open Go.RowKit Pl

theorem stOfB_short (o : Option Addr) (n c : Nat) (w : World) (h : n < 17) :
    Calls Tryd.prog 18 #[.slice o n c] w fun e w' => e = .returned (.tuple #[.agg zst, .int .i64 4]) ∧ Below w.heap.size w w' := by
  have hZ : Blk (w.alloc (.cells #[.int .u8 0, .int .u8 0, .int .u8 0, .int .u8 0, .int .u8 0, .int .u16 0, .int .u8 0, .int .u8 0, .int .u8 0, .int .u8 0, .int .u8 0, .int .u8 0, .int .u8 0, .int .u8 0, .int .u8 0, .bool false] 25)) w.heap.size 25 zst := Blk.new _ _ _
  have hb : Below w.heap.size w (w.alloc (.cells #[.int .u8 0, .int .u8 0, .int .u8 0, .int .u8 0, .int .u8 0, .int .u16 0, .int .u8 0, .int .u8 0, .int .u8 0, .int .u8 0, .int .u8 0, .int .u8 0, .int .u8 0, .int .u8 0, .int .u8 0, .bool false] 25)) := Bl.alloc (Below.refl _ _) _
  have i1 : (n : Int) < 17 := by omega
  go_enter Tryd.func18, Tryd.ntmps18
  go_upto_region 2 with fail
  generalize w.alloc (.cells #[.int .u8 0, .int .u8 0, .int .u8 0, .int .u8 0, .int .u8 0, .int .u16 0, .int .u8 0, .int .u8 0, .int .u8 0, .int .u8 0, .int .u8 0, .int .u8 0, .int .u8 0, .int .u8 0, .int .u8 0, .bool false] 25) = w0 at *
  go_wp2_with (refine wpList_store_row rfl 25 _ _ rfl w.heap.size zst rfl rfl 25 _ hZ (by kernel_rfl) rfl (by kernel_rfl) ?_)
  exact bodyPost_ret (results_ct rfl rfl (hZ.setRow _) Tryd.underlying25 rfl (by kernel_rfl)) rfl ⟨rfl, below_setRow hb (Nat.le_refl _) _⟩
theorem stOfB_long (o : Option Addr) (n c : Nat) (w : World) (h : 17 < n) :
    Calls Tryd.prog 18 #[.slice o n c] w fun e w' => e = .returned (.tuple #[.agg zst, .int .i64 2]) ∧ Below w.heap.size w w' := by
  have hZ : Blk (w.alloc (.cells #[.int .u8 0, .int .u8 0, .int .u8 0, .int .u8 0, .int .u8 0, .int .u16 0, .int .u8 0, .int .u8 0, .int .u8 0, .int .u8 0, .int .u8 0, .int .u8 0, .int .u8 0, .int .u8 0, .int .u8 0, .bool false] 25)) w.heap.size 25 zst := Blk.new _ _ _
  have hb : Below w.heap.size w (w.alloc (.cells #[.int .u8 0, .int .u8 0, .int .u8 0, .int .u8 0, .int .u8 0, .int .u16 0, .int .u8 0, .int .u8 0, .int .u8 0, .int .u8 0, .int .u8 0, .int .u8 0, .int .u8 0, .int .u8 0, .int .u8 0, .bool false] 25)) := Bl.alloc (Below.refl _ _) _
  have i1 : (decide ((n : Int) < 17)) = false := by rw [decide_eq_false_iff_not]; omega
  have i2 : (17 : Int) < (n : Int) := by omega
  go_enter Tryd.func18, Tryd.ntmps18
  go_upto_region 4 with fail
  generalize w.alloc (.cells #[.int .u8 0, .int .u8 0, .int .u8 0, .int .u8 0, .int .u8 0, .int .u16 0, .int .u8 0, .int .u8 0, .int .u8 0, .int .u8 0, .int .u8 0, .int .u8 0, .int .u8 0, .int .u8 0, .int .u8 0, .bool false] 25) = w0 at *
  go_wp2_with (refine wpList_store_row rfl 25 _ _ rfl w.heap.size zst rfl rfl 25 _ hZ (by kernel_rfl) rfl (by kernel_rfl) ?_)
  exact bodyPost_ret (results_ct rfl rfl (hZ.setRow _) Tryd.underlying25 rfl (by kernel_rfl)) rfl ⟨rfl, below_setRow hb (Nat.le_refl _) _⟩
/-- The registers read so far. -/
def luC (B : Nat → Nat) (k i : Nat) : Value := .int .u16 ((if i < k then unb B i else 0 : Nat) : Int)
theorem luC_step (B : Nat → Nat) (k : Nat) : ∀ i, i < 16 → updv (luC B k) k (.int .u16 (unb B k : Int)) i = luC B (k + 1) i := fun i _ => by
  unfold updv luC
  by_cases e : i = k
  · subst e; rw [if_pos rfl, if_pos (by omega)]
  · rw [if_neg e]
    by_cases h : i < k
    · rw [if_pos h, if_pos (by omega)]
    · rw [if_neg h, if_neg (by omega)]
theorem luC_over (B : Nat → Nat) (k : Nat) (u : Value) : ∀ i, i < 16 → updv (updv (luC B k) k u) k (.int .u16 (unb B k : Int)) i = luC B (k + 1) i := fun i hi => by
  rw [← luC_step B k i hi]
  unfold updv
  by_cases e : i = k
  · rw [if_pos e, if_pos e]
  · rw [if_neg e, if_neg e, if_neg e]
theorem luC_all (B : Nat → Nat) : arr 16 (luC B 16) = vaA (unb B) := arr_congr fun i hi => by unfold luC; rw [if_pos hi]
theorem unb_bcn (B : Nat → Nat) (k : Nat) (h5 : k ≠ 5) : unb B k = B (bcn k) := by
  unfold unb bcn
  by_cases h : k < 5
  · rw [if_pos h, if_pos (by omega)]
  · rw [if_neg h, if_neg h5, if_neg (by omega)]
theorem bcn_step (k : Nat) (h5 : k ≠ 5) : bcn (k + 1) = bcn k + 1 := by
  unfold bcn
  by_cases h : k ≤ 5
  · rw [if_pos h, if_pos (by omega)]
  · rw [if_neg h, if_neg (by omega)]
/-- What seventeen bytes are as registers. -/
def ofR (B : Nat → Nat) : Value := if B 16 < 2 then .tuple #[.agg (stA (unb B)), .int .i64 0] else .tuple #[.agg zst, .int .i64 3]
set_option maxRecDepth 100000 in
set_option maxHeartbeats 2000000 in
theorem stOfB_calls (o : Option Addr) (c : Nat) (B : Nat → Nat) (w : World) (hL : NumsAt w .u8 o 17 fun i => (B i : Int)) (hB : ∀ j, j < 17 → B j < 256) :
    Calls Tryd.prog 18 #[.slice o 17 c] w fun e w' => e = .returned (ofR B) ∧ Below w.heap.size w w' := by
  have hZ : Blk ((w.alloc (.cells #[.int .u8 0, .int .u8 0, .int .u8 0, .int .u8 0, .int .u8 0, .int .u16 0, .int .u8 0, .int .u8 0, .int .u8 0, .int .u8 0, .int .u8 0, .int .u8 0, .int .u8 0, .int .u8 0, .int .u8 0, .bool false] 25)).alloc (.cells (arr 16 fun _ => .int .u16 0) 64)) w.heap.size 25 zst := Blk.alloc (Blk.new _ _ _) _
  have hV : Blk ((w.alloc (.cells #[.int .u8 0, .int .u8 0, .int .u8 0, .int .u8 0, .int .u8 0, .int .u16 0, .int .u8 0, .int .u8 0, .int .u8 0, .int .u8 0, .int .u8 0, .int .u8 0, .int .u8 0, .int .u8 0, .int .u8 0, .bool false] 25)).alloc (.cells (arr 16 fun _ => .int .u16 0) 64)) (w.heap.size + 1) 64 (arr 16 (luC B 0)) := Blk.newAt (by simp)
  have hb : Below w.heap.size w ((w.alloc (.cells #[.int .u8 0, .int .u8 0, .int .u8 0, .int .u8 0, .int .u8 0, .int .u16 0, .int .u8 0, .int .u8 0, .int .u8 0, .int .u8 0, .int .u8 0, .int .u8 0, .int .u8 0, .int .u8 0, .int .u8 0, .bool false] 25)).alloc (.cells (arr 16 fun _ => .int .u16 0) 64)) := Bl.alloc (Bl.alloc (Below.refl _ _) _) _
  go_enter Tryd.func18, Tryd.ntmps18
  go_wp2_with fail
  generalize hw0 : (w.alloc (.cells #[.int .u8 0, .int .u8 0, .int .u8 0, .int .u8 0, .int .u8 0, .int .u16 0, .int .u8 0, .int .u8 0, .int .u8 0, .int .u8 0, .int .u8 0, .int .u8 0, .int .u8 0, .int .u8 0, .int .u8 0, .bool false] 25)).alloc (.cells (arr 16 fun _ => .int .u16 0) 64) = w0 at *
  have hw1 : (w.alloc (.cells #[.int .u8 0, .int .u8 0, .int .u8 0, .int .u8 0, .int .u8 0, .int .u16 0, .int .u8 0, .int .u8 0, .int .u8 0, .int .u8 0, .int .u8 0, .int .u8 0, .int .u8 0, .int .u8 0, .int .u8 0, .bool false] 25)).alloc (.cells #[.int .u16 0, .int .u16 0, .int .u16 0, .int .u16 0, .int .u16 0, .int .u16 0, .int .u16 0, .int .u16 0, .int .u16 0, .int .u16 0, .int .u16 0, .int .u16 0, .int .u16 0, .int .u16 0, .int .u16 0, .int .u16 0] 64) = w0 := hw0
  rw [hw1]
  clear hw0 hw1
  go_loopw [5, 17] (fun a i wr => ∃ k : Nat, k ≤ 16 ∧ i = .int .i64 (k : Int) ∧ a = .int .i64 (bcn k : Int) ∧ Blk wr w.heap.size 25 zst ∧ Blk wr (w.heap.size + 1) 64 (arr 16 (luC B k)) ∧ Below w.heap.size w wr ∧ (k = 16 → B 16 < 2)) (fun _ i _ => 16 - (intOf i).toNat)
  case atStart => exact ⟨0, Nat.zero_le _, rfl, rfl, hZ, hV, hb, fun h => by omega⟩
  case round =>
    obtain ⟨k, hk, rfl, rfl, hZr, hVr, hbr, hfin⟩ := hrel
    clear hZ hV hb
    have hLr := hL.below hbr (Nat.le_refl _)
    have HFI := hide hfin
    clear hfin
    by_cases hlt : k < 16
    · obtain ⟨q, hq⟩ : ∃ q, bcn k = q := ⟨_, rfl⟩
      have hq17 : q < 17 := by rw [← hq]; unfold bcn; split <;> omega
      obtain ⟨bl, off, ho, hbl, hc⟩ := hLr q hq17
      subst ho
      have hlt' : (k : Int) < 16 := by omega
      have hq17' : (q : Int) < 17 := by omega
      have hBq := hB q hq17
      have c0 : wr.cell? ⟨w.heap.size + 1, k, none⟩ = some (.int .u16 0) := by
        rw [hVr.cell, arr_get 16 _ k hlt]
        unfold luC
        rw [if_neg (by omega)]
        rfl
      have f0 : wr.frozen? ⟨w.heap.size + 1, k, none⟩ = false := hVr.frozen k
      have hV2 := hVr.set_ k (.int .u16 (B q : Int))
      have hZ2 := hZr.far (p := ⟨w.heap.size + 1, k, none⟩) (by dsimp only; omega) (.int .u16 (B q : Int))
      have hb2 := hbr.setCell (p := ⟨w.heap.size + 1, k, none⟩) (by dsimp only; omega) (.int .u16 (B q : Int))
      have hblt : bl < w.heap.size := by
        obtain ⟨b', off', ho', hlt', _⟩ := hL q hq17
        cases ho'
        exact hlt'
      rw [hq]
      rw [arr_set 16 _ k _ hlt] at hV2
      go_upto_region 11 with fail
      generalize wr.setCell ⟨w.heap.size + 1, k, none⟩ (.int .u16 (B q : Int)) = w2 at *
      clear hVr hZr hbr c0 f0 hc
      by_cases h5 : k = 5
      · have hq5 : q = 5 := by rw [← hq, h5]; rfl
        obtain ⟨bl6, off6, ho6, _, hc6⟩ := hL.below hb2 (Nat.le_refl _) 6 (by omega)
        obtain ⟨_, _, ho5, _, hc5⟩ := hL.below hb2 (Nat.le_refl _) 5 (by omega)
        cases ho6
        cases ho5
        have hB5 := hB 5 (by omega)
        have hB6 := hB 6 (by omega)
        have hu : unb B k = B 5 + 256 * B 6 := by rw [h5]; rfl
        have hm : most k = 65535 := by rw [h5]; rfl
        have hn : bcn (k + 1) = 7 := by rw [h5]; rfl
        have h5' : ((k : Int) == 5) = true := by rw [h5]; rfl
        have c1 : w2.cell? ⟨w.heap.size + 1, k, none⟩ = some (.int .u16 (B q : Int)) := by
          rw [hV2.cell, arr_get 16 _ k hlt]
          unfold updv
          rw [if_pos rfl]
        have f1 : w2.frozen? ⟨w.heap.size + 1, k, none⟩ = false := hV2.frozen k
        obtain ⟨u, hu2⟩ : ∃ u, B 5 + 256 * B 6 = u := ⟨_, rfl⟩
        have hu6 : u < 65536 := by omega
        rw [hu2] at hu
        have hV3 := hV2.set_ k (.int .u16 (unb B k : Int))
        rw [arr_set 16 _ k _ hlt, arr_congr (luC_over B k _), hu] at hV3
        have hZ3 := hZ2.far (p := ⟨w.heap.size + 1, k, none⟩) (by dsimp only; omega) (.int .u16 (u : Int))
        have hb3 := hb2.setCell (p := ⟨w.heap.size + 1, k, none⟩) (by dsimp only; omega) (.int .u16 (u : Int))
        subst hq5
        have hc53 : (w2.setCell ⟨w.heap.size + 1, k, none⟩ (.int .u16 (u : Int))).cell? ⟨bl, off + 5, none⟩ = some (.int .u8 (B 5 : Int)) := (World.cell?_of_block (Below.heap_setCell w2 _ _ bl (by dsimp only; omega))).trans hc5
        have hc63 : (w2.setCell ⟨w.heap.size + 1, k, none⟩ (.int .u16 (u : Int))).cell? ⟨bl, off + 6, none⟩ = some (.int .u8 (B 6 : Int)) := (World.cell?_of_block (Below.heap_setCell w2 _ _ bl (by dsimp only; omega))).trans hc6
        have cu : arr 16 (luC B (k + 1)) = arr 16 (luC B (k + 1)) := rfl
        have c3 : (w2.setCell ⟨w.heap.size + 1, k, none⟩ (.int .u16 (u : Int))).drew.cell? ⟨w.heap.size + 1, k, none⟩ = some (.int .u16 (u : Int)) := by
          show (w2.setCell ⟨w.heap.size + 1, k, none⟩ (.int .u16 (u : Int))).cell? ⟨w.heap.size + 1, k, none⟩ = _
          rw [hV3.cell, arr_get 16 _ k hlt]
          unfold luC
          rw [if_pos (by omega), hu]
        have HU2 := hide hu2
        have HK : Hid (k + 1 = 16 → B 16 < 2) := fun h => by omega
        have HN := hide hn
        have ew : IntKind.i64.wrap ((6 : Int) - 1) = 5 := rfl
        have ew1 : (6 : Int) - 1 = 5 := rfl
        have ew2 : IntKind.i64.wrap 5 = 5 := rfl
        have i1 : (decide (((most k : Nat) : Int) < (u : Int))) = false := by rw [decide_eq_false_iff_not, hm]; omega
        have i1n : (decide (most k < u)) = false := by rw [decide_eq_false_iff_not, hm]; omega
        clear hq hu hm hn h5 hq17' hu2 cu
        go_wp2_with fail
        go_region_held3 (fun W => W.cell? ⟨bl, off + 5, none⟩ = some (.int .u8 (B 5 : Int)) ∧ W.cell? ⟨bl, off + 6, none⟩ = some (.int .u8 (B 6 : Int)))
          (first | exact ⟨hc53, hc63⟩ | exact ⟨hc5, hc6⟩)
          (first | (go_at_call 43; refine (octWord_calls (B 5) (B 6) _ hB5 hB6).mono ?_; rintro e w' ⟨rfl, rfl⟩; rw [HU2.out]))
        clear hc5 hc6 c1 f1 ew ew1 ew2 hc53 hc63
        go_wp2_with fail
        have hV4 : Blk (w2.setCell ⟨w.heap.size + 1, k, none⟩ (.int .u16 (u : Int))).drew (w.heap.size + 1) 64 (arr 16 (luC B (k + 1))) := hV3
        have hZ4 : Blk (w2.setCell ⟨w.heap.size + 1, k, none⟩ (.int .u16 (u : Int))).drew w.heap.size 25 zst := hZ3
        have hb4 := hb3.drew
        generalize (w2.setCell ⟨w.heap.size + 1, k, none⟩ (.int .u16 (u : Int))).drew = w4 at *
        clear hV3 hZ3 hb3 hV2 hZ2 hb2
        go_quiet ((go_at_call 41; first | exact quiet_left (stMost_calls k _ hlt) | exact quiet_add_left (stMost_calls k _ hlt)))
        go_wp2_with fail
        go_roundw
        case rel => exact ⟨k + 1, by omega, by go_num, by rw [HN.out]; rfl, hZ4, hV4, below_drewN hb4 _, HK.out⟩
        case measure => simp [intOf]; omega
      · have hu : unb B k = B q := by rw [unb_bcn B k h5, hq]
        have hn : bcn (k + 1) = q + 1 := by rw [bcn_step k h5, hq]
        have h5' : ((k : Int) == 5) = false := by rw [beq_eq_false_iff_ne]; omega
        have hV3 : Blk w2 (w.heap.size + 1) 64 (arr 16 (luC B (k + 1))) := by
          rw [← hu, arr_congr (luC_step B k)] at hV2
          exact hV2
        have c1 : w2.cell? ⟨w.heap.size + 1, k, none⟩ = some (.int .u16 (B q : Int)) := by
          rw [hV2.cell, arr_get 16 _ k hlt]
          unfold updv
          rw [if_pos rfl]
        clear hV2
        by_cases hbig : k = 15 ∧ 2 ≤ B q
        · obtain ⟨h15, hb16⟩ := hbig
          have hq16 : q = 16 := by rw [← hq, h15]; rfl
          have i1 : ((most k : Nat) : Int) < (B q : Int) := by rw [h15]; show (1 : Int) < _; omega
          have hno : ¬ B 16 < 2 := by rw [← hq16]; omega
          have HE : Hid (ofR B = .tuple #[.agg zst, .int .i64 3]) := if_neg hno
          clear hno hq hu hn hb16 h5 h15 hq16
          go_wp2_with fail
          go_quiet ((go_at_call 41; first | exact quiet_left (stMost_calls k _ hlt) | exact quiet_add_left (stMost_calls k _ hlt)))
          have hZ4 : Blk (w2.drewN nq) w.heap.size 25 zst := hZ2
          have hb4 := below_drewN hb2 nq
          generalize w2.drewN nq = w4 at *
          go_wp2_with (refine wpList_store_row rfl 25 _ _ rfl w.heap.size zst rfl rfl 25 _ hZ4 (by kernel_rfl) rfl (by kernel_rfl) ?_)
          exact bodyPost_ret (results_ct rfl rfl (hZ4.setRow _) Tryd.underlying25 rfl (by kernel_rfl)) rfl ⟨by rw [HE.out]; rfl, below_setRow hb4 (Nat.le_refl _) _⟩
        · have hle : B q ≤ most k := by
            unfold most
            rw [if_neg h5]
            by_cases h15 : k = 15
            · rw [if_pos h15]; omega
            · rw [if_neg h15]; omega
          have i1 : (decide (((most k : Nat) : Int) < (B q : Int))) = false := by rw [decide_eq_false_iff_not]; omega
          have i1n : (decide (most k < B q)) = false := by rw [decide_eq_false_iff_not]; omega
          have HN := hide hn
          have HK : Hid (k + 1 = 16 → B 16 < 2) := fun h => by
            have h15 : k = 15 := by omega
            have hq16 : q = 16 := by rw [← hq, h15]; rfl
            rw [← hq16]
            omega
          clear hq hu hn h5 hbig hle
          go_wp2_with fail
          go_quiet ((go_at_call 41; first | exact quiet_left (stMost_calls k _ hlt) | exact quiet_add_left (stMost_calls k _ hlt)))
          go_wp2_with fail
          go_roundw
          case rel => exact ⟨k + 1, by omega, by go_num, by rw [HN.out]; go_num, hZ2, hV3, below_drewN hb2 _, HK.out⟩
          case measure => simp [intOf]; omega
    · obtain rfl : k = 16 := by omega
      rw [luC_all] at hVr
      have hF := HFI.out rfl
      · have HE : Hid (ofR B = .tuple #[.agg (stA (unb B)), .int .i64 0]) := if_pos hF
        have hok := unb_ok hB hF
        clear hF
        go_wp2_with (refine wpList_load_row rfl 64 _ rfl (w.heap.size + 1) rfl _ (vaA (unb B)) (0, 0) _ hVr Tryd.underlying64 rfl (by kernel_rfl) ?_)
        refine (stState_calls (unb B) _ hok).mono ?_
        rintro e w5 ⟨rfl, hb5⟩
        have hZ5 := hZr.below hb5 hZr.lt
        have hb05 := hbr.trans (hb5.mono hbr.size)
        go_wp2_with (refine wpList_store_row rfl 25 _ _ rfl w.heap.size (stA (unb B)) rfl rfl 25 _ hZ5 (by kernel_rfl) rfl (by kernel_rfl) ?_)
        exact bodyPost_ret (results_ct rfl rfl (hZ5.setRow _) Tryd.underlying25 rfl (by kernel_rfl)) rfl ⟨by rw [HE.out]; rfl, below_setRow hb05 (Nat.le_refl _) _⟩
end Go.Proofs.YtelmkpcocaogjaaDoor
