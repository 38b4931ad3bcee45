/-
  Package state: values.state.
-/
import Derived.Test.YtelmkpcocaogjaaDoorSta2
namespace Go.Proofs.YtelmkpcocaogjaaDoor
open Go.RowKit Pl

/-- A state of noughts. -/
def zst : Array Value := #[.int .u8 0, .int .u8 0, .int .u8 0, .int .u8 0, .int .u8 0, .int .u16 0, .int .u8 0, .int .u8 0, .int .u8 0, .int .u8 0, .int .u8 0, .int .u8 0, .int .u8 0, .int .u8 0, .int .u8 0, .bool false]
theorem zst_eq : zst = stA fun _ => 0 := rfl
theorem stLo_calls (x : Nat) (w : World) (hx : x < 256) : Calls Tryd.prog 44 #[.int .u16 (x : Int)] w fun e w' => e = .returned (.int .u8 (x : Int)) ∧ w = w' :=
  (octLo_calls x w (by omega)).mono fun e w' ⟨h1, h2⟩ => ⟨by rw [h1, Nat.mod_eq_of_lt hx], h2⟩
/-- The state's cells, the banks so far. -/
def skC (V : Nat → Nat) (k i : Nat) : Value := if i = 5 then .int .u16 (V 5 : Int) else if i = 15 then .bool (V 15 == 1) else .int .u8 ((if i < 6 + k ∨ i = 14 then V i else 0 : Nat) : Int)
theorem skC_step (V : Nat → Nat) (k : Nat) (hk : k < 8) : ∀ i, i < 16 → updv (skC V k) (6 + k) (.int .u8 (V (6 + k) : Int)) i = skC V (k + 1) i := fun i _ => by
  unfold updv skC
  by_cases e : i = 6 + k
  · subst e; rw [if_pos rfl, if_neg (by omega), if_neg (by omega), if_pos (by omega)]
  · rw [if_neg e]
    by_cases h5 : i = 5
    · rw [if_pos h5, if_pos h5]
    · rw [if_neg h5, if_neg h5]
      by_cases h15 : i = 15
      · rw [if_pos h15, if_pos h15]
      · rw [if_neg h15, if_neg h15]
        by_cases h : i < 6 + k ∨ i = 14
        · rw [if_pos h, if_pos (by omega)]
        · rw [if_neg h, if_neg (by omega)]
theorem skC_all (V : Nat → Nat) : arr 16 (skC V 8) = stA V := rfl
set_option maxRecDepth 100000 in
set_option maxHeartbeats 4000000 in
theorem stState_calls (V : Nat → Nat) (w : World) (hV : ROk V) :
    Calls Tryd.prog 42 #[.agg (vaA V)] w fun e w' => e = .returned (.agg (stA V)) ∧ Below w.heap.size w w' := by
  have b0 := hV.b 0 (by omega) (by omega)
  have b1 := hV.b 1 (by omega) (by omega)
  have b2 := hV.b 2 (by omega) (by omega)
  have b3 := hV.b 3 (by omega) (by omega)
  have b4 := hV.b 4 (by omega) (by omega)
  have b5 := hV.w 5 (by omega)
  have b14 := hV.b 14 (by omega) (by omega)
  have b15 := hV.2.2
  have q15 : ((V 15 : Int) != 0) = (V 15 == 1) := by
    by_cases h : V 15 = 1
    · rw [h]; rfl
    · rw [show V 15 = 0 from by omega]; rfl
  have Q15 := hide q15
  have hX : Blk (w.alloc (.cells (vaA V) 64)) w.heap.size 64 (vaA V) := Blk.new _ _ _
  go_enter Tryd.func42, Tryd.ntmps42
  go_upto_region 1 with fail
  have hz1 : Blk ((w.alloc (.cells (vaA V) 64)).alloc (.cells #[.int .u8 0, .int .u8 0, .int .u8 0, .int .u8 0, .int .u8 0, .int .u16 0, .int .u8 0, .int .u8 0, .int .u8 0, .int .u8 0, .int .u8 0, .int .u8 0, .int .u8 0, .int .u8 0, .int .u8 0, .bool false] 25)) (w.heap.size + 1) 25 zst := Blk.newAt (by simp)
  have hb1 : Below w.heap.size w ((w.alloc (.cells (vaA V) 64)).alloc (.cells #[.int .u8 0, .int .u8 0, .int .u8 0, .int .u8 0, .int .u8 0, .int .u16 0, .int .u8 0, .int .u8 0, .int .u8 0, .int .u8 0, .int .u8 0, .int .u8 0, .int .u8 0, .int .u8 0, .int .u8 0, .bool false] 25)) := Bl.alloc (Bl.alloc (Below.refl _ _) _) _
  have hX1 : Blk ((w.alloc (.cells (vaA V) 64)).alloc (.cells #[.int .u8 0, .int .u8 0, .int .u8 0, .int .u8 0, .int .u8 0, .int .u16 0, .int .u8 0, .int .u8 0, .int .u8 0, .int .u8 0, .int .u8 0, .int .u8 0, .int .u8 0, .int .u8 0, .int .u8 0, .bool false] 25)) w.heap.size 64 (vaA V) := Blk.alloc hX _
  have hs1 : ((w.alloc (.cells (vaA V) 64)).alloc (.cells #[.int .u8 0, .int .u8 0, .int .u8 0, .int .u8 0, .int .u8 0, .int .u16 0, .int .u8 0, .int .u8 0, .int .u8 0, .int .u8 0, .int .u8 0, .int .u8 0, .int .u8 0, .int .u8 0, .int .u8 0, .bool false] 25)).heap.size = w.heap.size + 1 + 1 := by simp
  generalize ((w.alloc (.cells (vaA V) 64)).alloc (.cells #[.int .u8 0, .int .u8 0, .int .u8 0, .int .u8 0, .int .u8 0, .int .u16 0, .int .u8 0, .int .u8 0, .int .u8 0, .int .u8 0, .int .u8 0, .int .u8 0, .int .u8 0, .int .u8 0, .int .u8 0, .bool false] 25)) = w1 at *
  clear hX
  have HS := hide hs1
  clear hs1
  go_cut [3] (fun s3 wx => s3 = .pointer (some ⟨w1.heap.size, 0, none⟩) ∧ Blk wx w.heap.size 64 (vaA V) ∧ Blk wx (w.heap.size + 1) 25 zst ∧ Blk wx w1.heap.size 25 (arr 16 (skC V 0)) ∧ Below w.heap.size w wx)
  case first =>
    go_region_held3 (fun w' => w'.cell? ⟨w.heap.size, 0, none⟩ = some (.int .u16 (V 0 : Int)) ∧ w'.cell? ⟨w.heap.size, 1, none⟩ = some (.int .u16 (V 1 : Int)) ∧ w'.cell? ⟨w.heap.size, 2, none⟩ = some (.int .u16 (V 2 : Int)) ∧ w'.cell? ⟨w.heap.size, 3, none⟩ = some (.int .u16 (V 3 : Int)) ∧ w'.cell? ⟨w.heap.size, 4, none⟩ = some (.int .u16 (V 4 : Int)) ∧ w'.cell? ⟨w.heap.size, 5, none⟩ = some (.int .u16 (V 5 : Int)) ∧ w'.cell? ⟨w.heap.size, 14, none⟩ = some (.int .u16 (V 14 : Int)) ∧ w'.cell? ⟨w.heap.size, 15, none⟩ = some (.int .u16 (V 15 : Int)))
      (first | (refine ⟨Blk.cell (g := w.heap.size) (t := 64) (cs := vaA V) ?_ 0, Blk.cell (g := w.heap.size) (t := 64) (cs := vaA V) ?_ 1, Blk.cell (g := w.heap.size) (t := 64) (cs := vaA V) ?_ 2, Blk.cell (g := w.heap.size) (t := 64) (cs := vaA V) ?_ 3, Blk.cell (g := w.heap.size) (t := 64) (cs := vaA V) ?_ 4, Blk.cell (g := w.heap.size) (t := 64) (cs := vaA V) ?_ 5, Blk.cell (g := w.heap.size) (t := 64) (cs := vaA V) ?_ 14, Blk.cell (g := w.heap.size) (t := 64) (cs := vaA V) ?_ 15⟩ <;> ((repeat (first | with_reducible assumption | ((with_reducible refine Blk.newAt ?_); simp; done) | with_reducible refine Blk.drew ?_ | with_reducible refine Blk.alloc ?_ _)); done)))
      (first | (go_at_call 44; refine (stLo_calls _ _ (by assumption)).mono ?_; rintro e w' ⟨rfl, rfl⟩))
    all_goals
      go_wp2_with fail
      go_meet
      exact ⟨rfl, Blk.drew (Blk.alloc hX1 _), Blk.drew (Blk.alloc hz1 _), Blk.drew (Blk.new _ _ _), Below.drew (Bl.alloc hb1 _)⟩
  case rest =>
    obtain ⟨rfl, hXc, hZc, hLc, hbc⟩ := hcut
    have hgl : w.heap.size + 1 + 1 ≤ w1.heap.size := Nat.le_of_eq HS.out.symm
    obtain ⟨gL, hgL⟩ : ∃ x, w1.heap.size = x := ⟨_, rfl⟩
    rw [hgL] at hLc hgl ⊢
    clear hgL HS hz1 hb1 hX1 Q15 q15 b0 b1 b2 b3 b4 b5 b14 b15
    go_wp2_with fail
    go_loopw [29] (fun i wr => ∃ k : Nat, k ≤ 8 ∧ i = .int .i64 (k : Int) ∧ Blk wr w.heap.size 64 (vaA V) ∧ Blk wr (w.heap.size + 1) 25 zst ∧ Blk wr gL 25 (arr 16 (skC V k)) ∧ Below w.heap.size w wr) (fun i _ => 8 - (intOf i).toNat)
    case atStart => exact ⟨0, Nat.zero_le _, rfl, hXc, hZc, hLc, hbc⟩
    case round =>
      obtain ⟨k, hk, rfl, hX, hZ, hL, hb⟩ := hrel
      by_cases hlt : k < 8
      · have bk := hV.b (6 + k) (by omega) (by omega)
        obtain ⟨q, hq⟩ : ∃ q, 6 + k = q := ⟨_, rfl⟩
        have e1 : (6 : Int) + (k : Int) = (q : Int) := by omega
        have x0 : wr.cell? ⟨w.heap.size, q, none⟩ = some (.int .u16 (V q : Int)) := by rw [hX.cell]; exact arr_get 16 _ q (by omega)
        have hL2 := hL.set_ (6 + k) (.int .u8 (V (6 + k) : Int))
        rw [arr_set 16 _ (6 + k) _ (by omega), arr_congr (skC_step V k hlt)] at hL2
        have hX2 := hX.far (p := ⟨gL, 6 + k, none⟩) (by dsimp only; omega) (.int .u8 (V (6 + k) : Int))
        have hZ2 := hZ.far (p := ⟨gL, 6 + k, none⟩) (by dsimp only; omega) (.int .u8 (V (6 + k) : Int))
        have hb2 := hb.setCell (p := ⟨gL, 6 + k, none⟩) (by dsimp only; omega) (.int .u8 (V (6 + k) : Int))
        have c0 : wr.cell? ⟨gL, 6 + k, none⟩ = some (.int .u8 0) := by
          rw [hL.cell, arr_get 16 _ (6 + k) (by omega)]
          unfold skC
          rw [if_neg (by omega), if_neg (by omega), if_neg (by omega)]
          rfl
        have f0 : wr.frozen? ⟨gL, 6 + k, none⟩ = false := hL.frozen (6 + k)
        have HV : Hid (V (6 + k) = V q) := by rw [hq]; exact rfl
        rw [hq] at bk
        rw [HV.out] at hL2 hX2 hZ2 hb2
        have hlt' : (k : Int) < 8 := by omega
        have hq16 : (q : Int) < 16 := by omega
        clear hq hX hZ hL hb hXc hZc hLc hbc
        go_wp2_with (go_at_call 44; refine (stLo_calls _ _ bk).mono ?_; rintro e w' ⟨rfl, rfl⟩)
        go_roundw
        case rel => exact ⟨k + 1, by omega, by go_num, hX2, hZ2, hL2, hb2⟩
        case measure => simp [intOf]; omega
      · obtain rfl : k = 8 := by omega
        rw [skC_all] at hL
        clear hXc hZc hLc hbc
        go_wp2_with (first
          | (refine wpList_load_row rfl 25 _ rfl gL rfl _ (stA V) (0, 0) _ hL Tryd.underlying25 rfl (by kernel_rfl) ?_)
          | (refine wpList_store_row rfl 25 _ _ rfl (w.heap.size + 1) (stA V) rfl rfl 25 _ hZ (by kernel_rfl) rfl (by kernel_rfl) ?_))
        exact bodyPost_ret (results_cell_row rfl _ _ (w.heap.size + 1) 25 (stA V) (0, 0) _ rfl (hZ.setRow _) Tryd.underlying25 rfl (by kernel_rfl)) rfl ⟨rfl, below_setRow hb (by omega) _⟩
end Go.Proofs.YtelmkpcocaogjaaDoor
