/-
  The texts Ram3 of the proof of TopSums, as one file (they are merged by a program).
-/
import Derived.Test.YtplobngbjpgcgaaGreatDoorA14
import Derived.Test.YtplobngbjpgcgaaGreatDoorA32
section
/-
  Package ram: Of.
-/
namespace Go.Proofs.YtplobngbjpgcgaaGreatDoor
set_option linter.unusedSimpArgs false
set_option linter.unusedVariables false
set_option maxRecDepth 10000
open Go.RowKit
theorem layF_updF (F L : Nat → Int) (p k : Nat) : updF (layF F p k L) (p + k) (L k) = layF F p (k + 1) L := layF_step F L p k
set_option maxRecDepth 100000 in
set_option maxHeartbeats 4000000 in
theorem rmOf_calls (a : Option Addr) (n c : Nat) (At : Nat → Int) (O : Nat → Option Addr) (Ln Cp : Nat → Nat) (By : Nat → Nat → Int) (w : World) (hn : n ≤ 100000) (hL : ∀ i, i < n → Ln i ≤ 9223372036854775807) (hA : ∀ i, i < n → At i ≤ 9223372036854775807) (hP : PieB w a n At O Ln Cp By w.heap.size) :
    Calls Tryz.prog 41 #[.slice a n c] w fun e w' => Below w.heap.size w w' ∧
      ((∃ i, i < n ∧ (∀ j, j < i → Fits 8192 (At j) (Ln j)) ∧ ¬ Fits 8192 (At i) (Ln i) ∧ e = .returned (.tuple #[.pointer none, .agg (fltA (1, i))])) ∨
       ((∀ j, j < n → Fits 8192 (At j) (Ln j)) ∧ ∃ h g, e = .returned (.tuple #[.pointer (some ⟨h, 0, none⟩), .agg (fltA (0, 0))]) ∧ RamB w' h g (8192 * n) (mkF At Ln By n) ∧ w.heap.size ≤ h ∧ w.heap.size ≤ g)) := by
  have hz : Blk (w.alloc (.cells #[.int .i64 0, .int .i64 0] 48)) w.heap.size 48 #[.int .i64 0, .int .i64 0] := Blk.new _ _ _
  have hb : Below w.heap.size w (w.alloc (.cells #[.int .i64 0, .int .i64 0] 48)) := (Below.refl _ _).alloc (Nat.le_refl _) _
  go_enter Tryz.func41, Tryz.ntmps41
  go_wp2_with fail
  obtain ⟨fv, hfv⟩ : ∃ x, w.heap.size = x := ⟨_, rfl⟩
  rw [hfv] at hz ⊢
  generalize w.alloc (.cells #[.int .i64 0, .int .i64 0] 48) = w1 at *
  refine (rmNew_calls w1).mono ?_
  rintro e w2 ⟨h, g, rfl, hR2, hh, hg, hb2⟩
  have hz2 := hz.below hb2 hz.lt
  have hb02 := hb.trans (hb2.mono hb.size)
  have hh0 : w.heap.size ≤ h := Nat.le_trans hb.size hh
  have hg0 : w.heap.size ≤ g := Nat.le_trans hb.size hg
  have hfg : fv ≠ g := fun e => by have := hz.lt; omega
  have hfh : fv ≠ h := fun e => by have := hz.lt; omega
  have hf0 : w.heap.size ≤ fv := by omega
  have hR2 : RamB w2 h g (8192 * 0) (mkF At Ln By 0) := hR2
  clear hz hb hb2 hh hg hfv
  go_wp2_with fail
  go_loopw [12] (fun i wr => ∃ j : Nat, j ≤ n ∧ i = .int .i64 (j : Int) ∧ (∀ k, k < j → Fits 8192 (At k) (Ln k)) ∧ RamB wr h g (8192 * j) (mkF At Ln By j) ∧ Blk wr fv 48 #[.int .i64 0, .int .i64 0] ∧ Below w.heap.size w wr) (fun i _ => n - (intOf i).toNat)
  case atStart => exact ⟨0, by omega, rfl, fun k hk => by omega, hR2, hz2, hb02⟩
  case round =>
    obtain ⟨j, hj, rfl, hfit, hRr, hZr, hbr⟩ := hrel
    by_cases hjn : j < n
    · have hjn' : (j : Int) < (n : Int) := by omega
      obtain ⟨b, off, rfl, hlt, x0, x1, hNm⟩ := (hP.below hbr (Nat.le_refl _)) j hjn
      have hLj := hL j hjn
      have hAj := hA j hjn
      by_cases hft : Fits 8192 (At j) (Ln j)
      · obtain ⟨p, hp⟩ : ∃ p : Nat, At j = (p : Int) := ⟨(At j).toNat, by have := hft.1; omega⟩
        have hpn : p + Ln j ≤ 8192 := by have := hft.2; omega
        have hstep : mkF At Ln By (j + 1) = layF (mkF At Ln By j) p (Ln j) (By j) := by
          show layF (mkF At Ln By j) (At j).toNat (Ln j) (By j) = _
          rw [hp]; rfl
        have hfit' : ∀ k, k < j + 1 → Fits 8192 (At k) (Ln k) := fun k hk => by
          by_cases e : k = j
          · subst e; exact hft
          · exact hfit k (by omega)
        have HF := hide hfit'
        have HS := hide hstep
        rw [hp] at x0
        obtain ⟨L, hLe⟩ : ∃ L, Ln j = L := ⟨_, rfl⟩
        rw [hLe] at x1 hNm hpn hLj
        have HLe := hide hLe
        have hR3 : RamB (wr.alloc (.cells #[.int .i64 (p : Int), .slice (O j) L (Cp j)] 34)) h g (8192 * j + 0) (layF (mkF At Ln By j) p 0 (By j)) := by
          rw [layF_zero]
          exact hRr.low (Below.alloc (Below.refl _ _) (Nat.le_refl _) _)
        have hZ3 : Blk (wr.alloc (.cells #[.int .i64 (p : Int), .slice (O j) L (Cp j)] 34)) fv 48 #[.int .i64 0, .int .i64 0] := hZr.alloc _
        have hX3 : Blk (wr.alloc (.cells #[.int .i64 (p : Int), .slice (O j) L (Cp j)] 34)) wr.heap.size 34 #[.int .i64 (p : Int), .slice (O j) L (Cp j)] := Blk.new _ _ _
        have hxg : wr.heap.size ≠ g := fun e => by have := hRr.2.lt; omega
        have hb3 : Below w.heap.size w (wr.alloc (.cells #[.int .i64 (p : Int), .slice (O j) L (Cp j)] 34)) := hbr.alloc hbr.size _
        have hN3 : NumsB (wr.alloc (.cells #[.int .i64 (p : Int), .slice (O j) L (Cp j)] 34)) .u8 (O j) L (By j) w.heap.size := NumsB.only (S := fun _ => False) hNm ((Only.refl _ _).alloc _) (fun _ _ e => e)
        have i1 : (decide ((p : Int) < 0)) = false := by rw [decide_eq_false_iff_not]; omega
        have i2 : (decide ((8192 : Int) < (p : Int))) = false := by rw [decide_eq_false_iff_not]; omega
        have i3 : (decide ((8192 : Int) - (p : Int) < (L : Int))) = false := by rw [decide_eq_false_iff_not]; omega
        have hp1 : (p : Int) ≤ 8192 := by omega
        clear hfit hfit' hstep hp hft hRr hZr hNm hbr hLe hAj hz2 hR2 hb02
        go_wp2_with fail
        generalize wr.alloc (.cells #[.int .i64 (p : Int), .slice (O j) L (Cp j)] 34) = w3 at *
        generalize wr.heap.size = gx at *
        clear i1 i2 i3 x0 x1
        obtain ⟨G, hG⟩ : ∃ G, mkF At Ln By j = G := ⟨_, rfl⟩
        rw [hG] at hR3 HS
        clear hG
        go_loopw [39] (fun i wq => ∃ k : Nat, k ≤ L ∧ i = .int .i64 (k : Int) ∧ RamB wq h g (8192 * j + k) (layF G p k (By j)) ∧ Blk wq fv 48 #[.int .i64 0, .int .i64 0] ∧ Blk wq gx 34 #[.int .i64 (p : Int), .slice (O j) L (Cp j)] ∧ NumsB wq .u8 (O j) L (By j) w.heap.size ∧ Below w.heap.size w wq) (fun i _ => L - (intOf i).toNat)
        case atStart => exact ⟨0, by omega, rfl, hR3, hZ3, hX3, hN3, hb3⟩
        case round =>
          obtain ⟨k, hk, rfl, hRq, hZq, hXq, hNq, hbq⟩ := hrel
          by_cases hkl : k < L
          · have hkl' : (k : Int) < (L : Int) := by omega
            obtain ⟨bb, oo, hO, hbb, cb⟩ := hNq k hkl
            rw [hO] at hXq
            have x0 : wr.cell? ⟨gx, 0, none⟩ = some (.int .i64 (p : Int)) := hXq.cell 0
            have e1 : (p : Int) + (k : Int) ≤ 8191 := by omega
            have e2 : IntKind.u16.wrap ((p : Int) + (k : Int)) = ((p + k : Nat) : Int) := by rw [IntKind.wrap_u16]; omega
            have E2 := hide e2
            have hpk : (p + k) % 8192 = p + k := by omega
            have hw := rmWrite_calls h g (8192 * j + k) (p + k) (By j k) (layF G p k (By j)) wr (by omega) (by unfold maxLen; omega) hRq
            rw [hpk, layF_updF, show ((p + k : Nat) : Int) = (p : Int) + (k : Int) from by omega] at hw
            clear e2 hpk
            clear hRq
            go_wp2_with fail
            refine hw.mono ?_
            rintro e w5 ⟨rfl, hR5, ho5⟩
            have hZ5 := hZq.only ho5 hfg
            have hX5 := hXq.only ho5 hxg
            have hN5 := hNq.only ho5 (fun j hj e => by omega)
            have hb5 := hbq.trans (ho5.below hbq.size (fun k e => by omega))
            rw [← hO] at hX5
            have HO := hide hO
            clear hO
            clear hw hZq hXq hNq hbq ho5
            go_wp2_with fail
            go_roundw
            case rel => exact ⟨k + 1, by omega, by go_num, hR5, hZ5, hX5, hN5, hb5⟩
            case measure => simp [intOf]; omega
          · obtain rfl : k = L := by omega
            have hR6 : RamB wr h g (8192 * (j + 1)) (mkF At Ln By (j + 1)) := by
              rw [HS.out, HLe.out]
              exact ⟨hRq.1, hRq.2.mono (by omega)⟩
            clear hRq hXq hNq
            go_wp2_with fail
            go_roundw
            case rel => exact ⟨j + 1, by omega, by go_num, HF.out, hR6, hZq, hbq⟩
            case measure => simp [intOf]; omega
      · obtain ⟨q, hq⟩ : ∃ q, At j = q := ⟨_, rfl⟩
        have hZ2 : Blk (wr.alloc (.cells #[.int .i64 q, .slice (O j) (Ln j) (Cp j)] 34)) fv 48 #[.int .i64 0, .int .i64 0] := Blk.alloc hZr _
        have hb2 : Below w.heap.size w (wr.alloc (.cells #[.int .i64 q, .slice (O j) (Ln j) (Cp j)] 34)) := hbr.alloc hbr.size _
        have HF := hide hfit
        have HT := hide hft
        have hft' : ¬ Fits 8192 q (Ln j) := hq ▸ hft
        rw [hq] at x0 hAj
        unfold Fits at hft'
        clear hfit hft hP hNm hRr hZr hbr hR2 hz2 hb02 hL hA
        by_cases h1 : q < 0
        · clear hft' hAj hLj
          go_wp2_with (refine wpList_store_row rfl 48 _ _ rfl fv _ rfl rfl 48 _ hZ2 (by kernel_rfl) rfl (by kernel_rfl) ?_)
          exact bodyPost_ret (results_tc rfl rfl (hZ2.setRow _) Tryz.underlying48 rfl (by kernel_rfl)) rfl ⟨below_setRow hb2 (by omega) _, Or.inl ⟨j, hjn, HF.out, HT.out, rfl⟩⟩
        · have i1 : (decide (q < 0)) = false := decide_eq_false h1
          by_cases h2 : 8192 < q
          · clear hft' hAj hLj h1
            go_wp2_with (refine wpList_store_row rfl 48 _ _ rfl fv _ rfl rfl 48 _ hZ2 (by kernel_rfl) rfl (by kernel_rfl) ?_)
            exact bodyPost_ret (results_tc rfl rfl (hZ2.setRow _) Tryz.underlying48 rfl (by kernel_rfl)) rfl ⟨below_setRow hb2 (by omega) _, Or.inl ⟨j, hjn, HF.out, HT.out, rfl⟩⟩
          · have i2 : (decide ((8192 : Int) < q)) = false := decide_eq_false h2
            have i3 : (8192 : Int) - q < (Ln j : Int) := by omega
            have i4 : 0 ≤ q := by omega
            have i5 : q ≤ 8192 := by omega
            clear hft' hAj hLj h1 h2
            go_wp2_with (refine wpList_store_row rfl 48 _ _ rfl fv _ rfl rfl 48 _ hZ2 (by kernel_rfl) rfl (by kernel_rfl) ?_)
            exact bodyPost_ret (results_tc rfl rfl (hZ2.setRow _) Tryz.underlying48 rfl (by kernel_rfl)) rfl ⟨below_setRow hb2 (by omega) _, Or.inl ⟨j, hjn, HF.out, HT.out, rfl⟩⟩
    · obtain rfl : j = n := by omega
      have HF := hide hfit
      clear hfit hP hz2 hR2 hb02
      go_wp2_with (refine wpList_store_row rfl 48 _ _ rfl fv _ rfl rfl 48 _ hZr (by kernel_rfl) rfl (by kernel_rfl) ?_)
      refine bodyPost_ret (results_tc rfl rfl (hZr.setRow _) Tryz.underlying48 rfl (by kernel_rfl)) rfl ⟨below_setRow hbr (by omega) _, Or.inr ⟨HF.out, h, g, rfl, ⟨Blk.setRow_far hRr.1 hfh.symm _, ?_⟩, hh0, hg0⟩⟩
      exact hRr.2.only (S := fun x => x = fv) ⟨rfl, rfl, rfl, by rw [setRow_size]; exact Nat.le_refl _, fun k _ hk => setRow_block _ _ _ _ hk⟩ hfg.symm
end Go.Proofs.YtplobngbjpgcgaaGreatDoor
end
