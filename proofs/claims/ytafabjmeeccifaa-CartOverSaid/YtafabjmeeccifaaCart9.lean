/-
  cart: Program, too long; gannetref04: Program.
-/
import Derived.Test.YtafabjmeeccifaaCart8
namespace Go.Proofs.Ytafabjmeeccifaa
open Go.RowKit Pl

theorem ctProgram_bad (t n c : Nat) (o : Option Addr) (G : Nat → Nat) (w : World) (ht : t < 65536) (hfit : 8182 < t % 8192 + n) :
    Calls Try.prog 16 #[.int .u16 (t : Int), .slice o n c, .agg (arr 5 fun i => .int .u16 (G i : Int))] w fun e w' => e = .returned (.tuple #[.slice none 0 0, .int .i64 2]) ∧ Below w.heap.size w w' := by
  obtain ⟨f, hf⟩ : ∃ f, t % 8192 = f := ⟨_, rfl⟩
  have hof := fun W => phOff_calls t W (by omega)
  rw [hf] at hof hfit
  have j1 : (8182 : Int) - (f : Int) < (n : Int) := by omega
  have j2 : (f : Int) ≤ 8191 := by omega
  have hb1 : Below w.heap.size w (w.alloc (.cells (arr 5 fun i => .int .u16 (G i : Int)) 40)) := (Below.refl _ _).alloc (Nat.le_refl _) _
  clear hf
  go_enter Try.func16, Try.ntmps16
  go_wp2_with fail
  refine Cl.p (hof _) ?_
  go_wp2_with fail
  go_ret2
  exact ⟨rfl, hb1⟩
theorem rcProgram_bad (t n c : Nat) (o : Option Addr) (G : Nat → Nat) (w : World) (ht : t < 65536) (hn : n ≤ 4611686018427387904) (hfit : 8182 < t % 8192 + n) :
    Calls Try.prog 17 #[.int .u16 (t : Int), .slice o n c, .agg (arr 5 fun i => .int .u16 (G i : Int))] w fun e w' => e = .returned (.tuple #[.slice none 0 0, .int .i64 2]) ∧ Below w.heap.size w w' := by
  obtain ⟨f, hf⟩ : ∃ f, t % 8192 = f := ⟨_, rfl⟩
  have k1 : (t : Int).tmod 8192 = (f : Int) := by rw [Int.tmod_eq_emod_of_nonneg (by omega)]; omega
  have k2 : (t : Int) % 8192 = (f : Int) := by omega
  rw [hf] at hfit
  have j1 : (8182 : Int) < (f : Int) + (n : Int) := by omega
  have j2 : (f : Int) ≤ 8191 := by omega
  have j3 : (n : Int) ≤ 4611686018427387904 := by omega
  have hb1 : Below w.heap.size w (w.alloc (.cells (arr 5 fun i => .int .u16 (G i : Int)) 40)) := (Below.refl _ _).alloc (Nat.le_refl _) _
  clear hf
  go_enter Try.func17, Try.ntmps17
  go_wp2_with fail
  go_ret2
  exact ⟨rfl, hb1⟩
set_option maxRecDepth 100000 in
set_option maxHeartbeats 4000000 in
theorem rcProgram_calls (t n c : Nat) (o : Option Addr) (F : Nat → Int) (G : Nat → Nat) (w : World) (ht : t < 65536) (hG : ∀ i, i < 5 → G i < 65536) (hL : NumsAt w .u8 o n F) (hfit : t % 8192 + n ≤ 8182) :
    Calls Try.prog 17 #[.int .u16 (t : Int), .slice o n c, .agg (arr 5 fun i => .int .u16 (G i : Int))] w fun e w' => ∃ g, e = .returned (.tuple #[.slice (some ⟨g, 0, none⟩) 8192 8192, .int .i64 0]) ∧ RW w' g 8192 (prg (t % 8192) n F G 5) ∧ w.heap.size ≤ g ∧ Below w.heap.size w w' := by
  obtain ⟨i0, hi, hz0, hz1, hz2⟩ := info_parts infoU8
  have hmk : ∀ W, (Instr.makeSlice 25 (.int .i64 8192) (.int .i64 8192)).run Try.prog W = .ok (.slice (some ⟨W.heap.size, 0, none⟩) 8192 8192) (W.alloc (.cells (arr 8192 fun _ => .int .u8 0) 5)) := fun W => run_make_arr (P := Try.prog) 25 5 i0 (.int .u8 0) 1 Try.underlying25 hi hz0 hz1 hz2 rfl .i64 .i64 8192 (by omega) (by omega) W
  obtain ⟨f, hf⟩ : ∃ f, t % 8192 = f := ⟨_, rfl⟩
  have k1 : (t : Int).tmod 8192 = (f : Int) := by rw [Int.tmod_eq_emod_of_nonneg (by omega)]; omega
  have k2 : (t : Int) % 8192 = (f : Int) := by omega
  rw [hf] at hfit ⊢
  have j1 : (decide ((8182 : Int) < (f : Int) + (n : Int))) = false := by rw [decide_eq_false_iff_not]; omega
  have j2 : (f : Int) + (n : Int) ≤ 8182 := by omega
  have hX : Blk (w.alloc (.cells (arr 5 fun i => .int .u16 (G i : Int)) 40)) w.heap.size 40 (arr 5 fun i => .int .u16 (G i : Int)) := Blk.new _ _ _
  have hb1 : Below w.heap.size w (w.alloc (.cells (arr 5 fun i => .int .u16 (G i : Int)) 40)) := (Below.refl _ _).alloc (Nat.le_refl _) _
  clear hf
  go_enter Try.func17, Try.ntmps17
  go_wp2_with fail
  have hX2 := hX.alloc (.cells (arr 8192 fun _ => .int .u8 0) 5)
  have hR2 : RW ((w.alloc (.cells (arr 5 fun i => .int .u16 (G i : Int)) 40)).alloc (.cells (arr 8192 fun _ => .int .u8 0) 5)) (w.heap.size + 1) 8192 (fun _ => 0) := Blk.newAt (by simp)
  have hb2 : Below w.heap.size w ((w.alloc (.cells (arr 5 fun i => .int .u16 (G i : Int)) 40)).alloc (.cells (arr 8192 fun _ => .int .u8 0) 5)) := Bl.alloc hb1 _
  generalize (w.alloc (.cells (arr 5 fun i => .int .u16 (G i : Int)) 40)).alloc (.cells (arr 8192 fun _ => .int .u8 0) 5) = w2 at *
  clear hX hb1 hmk
  have hL2 : NumsB w2 .u8 o n F w.heap.size := (hL.toB (Nat.le_refl _)).only (S := fun k => w.heap.size ≤ k) ⟨hb2.os, hb2.tape, hb2.output, hb2.size, fun j hj hs => hb2.block j (by omega)⟩ (fun j hj e => by omega)
  go_loopw [10] (fun i wr => ∃ k : Nat, k ≤ n ∧ i = .int .i64 (k : Int) ∧ RW wr (w.heap.size + 1) 8192 (layF (fun _ => 0) f k F) ∧ Only (fun b => b = w.heap.size + 1) w2 wr) (fun i _ => n - (intOf i).toNat)
  case atStart => exact ⟨0, by omega, rfl, by rw [layF_zero]; exact hR2, Only.refl _ _⟩
  case round =>
    obtain ⟨k, hk, rfl, hRr, hor⟩ := hrel
    by_cases hkn : k < n
    · have hkn' : (k : Int) < (n : Int) := by omega
      obtain ⟨b2, o2, ho2, hlt2, hc2⟩ := (hL2.only hor (fun q hq e => by omega)) k hkn
      subst ho2
      have hpk : f + k < 8192 := by omega
      have hpk' : (f : Int) + (k : Int) < 8192 := by omega
      have d3 : wr.cell? ⟨w.heap.size + 1, f + k, none⟩ = some (.int .u8 (layF (fun _ => 0) f k F (f + k))) := hRr.cell (f + k) hpk
      have d4 : wr.frozen? ⟨w.heap.size + 1, f + k, none⟩ = false := Blk.frozen hRr (f + k)
      have hRs : RW (wr.setCell ⟨w.heap.size + 1, f + k, none⟩ (.int .u8 (F k))) (w.heap.size + 1) 8192 (layF (fun _ => 0) f (k + 1) F) := by
        have := hRr.set (f + k) hpk (F k)
        rw [layF_step] at this
        exact this
      have hos : Only (fun b => b = w.heap.size + 1) w2 (wr.setCell ⟨w.heap.size + 1, f + k, none⟩ (.int .u8 (F k))) := Only.setCell (S := fun b => b = w.heap.size + 1) hor ⟨w.heap.size + 1, f + k, none⟩ rfl _
      clear hL hL2 hX2 hR2
      go_wp2_with fail
      go_roundw
      case rel => exact ⟨k + 1, by omega, by go_num, hRs, hos⟩
      case measure => simp [intOf]; omega
    · obtain rfl : k = n := by omega
      have hX3 := Blk.only hX2 hor (by omega)
      have hb3 := hb2.trans (hor.below hb2.size (fun q e => by omega))
      rw [← prg_zero f k F G] at hRr
      have hkf : (decide ((k : Int) < (k : Int))) = false := by rw [decide_eq_false_iff_not]; omega
      clear hL hL2 hX2 hR2 hor hb2
      go_wp2_with fail
      obtain ⟨w3, hw3⟩ : ∃ w3, w3 = wr := ⟨_, rfl⟩
      rw [← hw3] at hX3 hRr hb3 ⊢
      clear hw3
      go_loopw [11] (fun i wx => ∃ m : Nat, m ≤ 5 ∧ i = .int .i64 (m : Int) ∧ RW wx (w.heap.size + 1) 8192 (prg f k F G m) ∧ Only (fun b => b = w.heap.size + 1) w3 wx) (fun i _ => 5 - (intOf i).toNat)
      case atStart => exact ⟨0, by omega, rfl, hRr, Only.refl _ _⟩
      case round =>
        obtain ⟨m, hm, rfl, hRm, hom⟩ := hrel
        by_cases hm5 : m < 5
        · have hm5' : (m : Int) < 5 := by omega
          have hXm := Blk.only hX3 hom (by omega)
          have hGm := hG m hm5
          obtain ⟨x, hx⟩ : ∃ x, G m = x := ⟨_, rfl⟩
          have c5 : wr.cell? ⟨w.heap.size, m, none⟩ = some (.int .u16 (x : Int)) := by rw [hXm.cell, arr_get 5 _ m hm5, hx]
          rw [hx] at hGm
          obtain ⟨xl, hxl⟩ : ∃ y, x % 256 = y := ⟨_, rfl⟩
          obtain ⟨xh, hxh⟩ : ∃ y, x / 256 = y := ⟨_, rfl⟩
          have e1 : (x : Int) % 256 = (xl : Int) := by omega
          have e2 : (x : Int) / 256 = (xh : Int) := by omega
          have e3 : (xl : Int) < 256 := by omega
          have e4 : (xh : Int) < 256 := by omega
          have d1 : wr.cell? ⟨w.heap.size + 1, 8182 + 2 * m, none⟩ = some (.int .u8 (prg f k F G m (8182 + 2 * m))) := hRm.cell _ (by omega)
          have d2 : wr.frozen? ⟨w.heap.size + 1, 8182 + 2 * m, none⟩ = false := Blk.frozen hRm _
          have hR1 := hRm.set (8182 + 2 * m) (by omega) (xl : Int)
          have c6 : (wr.setCell ⟨w.heap.size + 1, 8182 + 2 * m, none⟩ (.int .u8 (xl : Int))).cell? ⟨w.heap.size, m, none⟩ = some (.int .u16 (x : Int)) := by
            rw [(Blk.far hXm (p := ⟨w.heap.size + 1, 8182 + 2 * m, none⟩) (by simp) _).cell, arr_get 5 _ m hm5, hx]
          have d3 := hR1.cell (8183 + 2 * m) (by omega)
          have d4 : (wr.setCell ⟨w.heap.size + 1, 8182 + 2 * m, none⟩ (.int .u8 (xl : Int))).frozen? ⟨w.heap.size + 1, 8183 + 2 * m, none⟩ = false := Blk.frozen hR1 _
          have hR2 := hR1.set (8183 + 2 * m) (by omega) (xh : Int)
          rw [← hxl, ← hxh, ← hx, prg_step, hx, hxl, hxh] at hR2
          have hom2 : Only (fun b => b = w.heap.size + 1) w3 ((wr.setCell ⟨w.heap.size + 1, 8182 + 2 * m, none⟩ (.int .u8 (xl : Int))).setCell ⟨w.heap.size + 1, 8183 + 2 * m, none⟩ (.int .u8 (xh : Int))) :=
            Only.setCell (S := fun b => b = w.heap.size + 1) (Only.setCell (S := fun b => b = w.heap.size + 1) hom ⟨w.heap.size + 1, 8182 + 2 * m, none⟩ rfl _) ⟨w.heap.size + 1, 8183 + 2 * m, none⟩ rfl _
          have HR := hide hR2
          have HO := hide hom2
          clear hR2 hom2 hG hX3 hRr hb3 hXm hR1 hRm hom hxl hxh hx
          go_wp2_with fail
          go_roundw
          case rel => exact ⟨m + 1, by omega, by go_num, HR.out, HO.out⟩
          case measure => simp [intOf]; omega
        · obtain rfl : m = 5 := by omega
          go_wp2_with fail
          go_ret2
          exact ⟨w.heap.size + 1, rfl, hRm, by omega, hb3.trans (hom.below hb3.size (fun q e => by omega))⟩
end Go.Proofs.Ytafabjmeeccifaa
