/-
  gannetref07.Check.
-/
import Derived.Test.YtdnpfddepnefnaaLn1
namespace Go.Proofs.Ytdnpfddepnefnaa
open Go.RowKit

theorem wrE_8 {St : Nat → Int} {Ln : Nat → Nat} {i : Nat} (h : 4 ≤ Ln i) : wrE St Ln i = 8 := if_pos h
theorem wrE_7 {St : Nat → Int} {Ln : Nat → Nat} {i : Nat} (h : ¬ 4 ≤ Ln i) (hp : 0 < i → 0 ≤ St (i - 1)) (k : St i < 0 ∨ limE < St i ∨ (0 < i ∧ St i < St (i - 1))) : wrE St Ln i = 7 := by
  unfold wrE
  rw [if_neg h]
  refine if_pos ?_
  by_cases e : i = 0
  · rw [if_pos e]; omega
  · rw [if_neg e]; have := hp (by omega); omega
theorem wrE_0 {St : Nat → Int} {Ln : Nat → Nat} {i : Nat} (h : ¬ 4 ≤ Ln i) (k1 : ¬ St i < 0) (k2 : ¬ limE < St i) (k3 : ¬ (0 < i ∧ St i < St (i - 1))) : wrE St Ln i = 0 := by
  unfold wrE
  rw [if_neg h]
  refine if_neg ?_
  by_cases e : i = 0
  · rw [if_pos e]; omega
  · rw [if_neg e]; omega
set_option maxRecDepth 100000 in
set_option maxHeartbeats 2000000 in
theorem rlCheck_calls (o : Option Addr) (n c : Nat) (St : Nat → Int) (Ln : Nat → Nat) (Up : Nat → Bool) (w : World) (hE : EdgB w o n St Ln Up w.heap.size) :
    Calls Try.prog 8 #[.slice o n c] w fun e w' => e = .returned (.agg (fltA (chkV St Ln n))) ∧ Below w.heap.size w w' := by
  have hz : Blk (w.alloc (.cells #[.int .i64 0, .int .i64 0] 26)) w.heap.size 26 #[.int .i64 0, .int .i64 0] := Blk.new _ _ _
  have hb : Below w.heap.size w (w.alloc (.cells #[.int .i64 0, .int .i64 0] 26)) := (Below.refl _ _).alloc (Nat.le_refl _) _
  by_cases h1 : 1000 < n
  · have i1 : (1000 : Int) < (n : Int) := by omega
    have e : chkV St Ln n = (2, 1000) := if_pos h1
    rw [e]
    clear e h1
    go_enter Try.func8, Try.ntmps8
    go_wp2_with fail
    refine bodyPost_ret (results_cell_row rfl _ _ w.heap.size 26 (fltA (2, 1000)) (0, 0) _ rfl (by first | exact heap_alloc_new w _ | exact hz.setRow _) Try.underlying26 rfl (by kernel_rfl)) rfl ⟨rfl, by first | exact (Below.refl _ _).alloc (Nat.le_refl _) _ | exact below_setRow hb (Nat.le_refl _) _⟩
  · have i1 : (decide ((1000 : Int) < (n : Int))) = false := by rw [decide_eq_false_iff_not]; omega
    have e : chkV St Ln n = chkE St Ln n 0 := if_neg h1
    rw [e]
    have hn : n ≤ 1000 := by omega
    clear e h1
    go_enter Try.func8, Try.ntmps8
    go_wp2_with fail
    go_loopw [3] (fun i wr => ∃ j : Nat, j ≤ n ∧ i = .int .i64 (j : Int) ∧ chkE St Ln (n - j) j = chkE St Ln n 0 ∧ (0 < j → 0 ≤ St (j - 1)) ∧ Blk wr w.heap.size 26 #[.int .i64 0, .int .i64 0] ∧ Below w.heap.size w wr) (fun i _ => n - (intOf i).toNat)
    case atStart => exact ⟨0, by omega, rfl, rfl, fun h => absurd h (by omega), hz, hb⟩
    case round =>
      obtain ⟨j, hj, rfl, hck, hpr, hzr, hbr⟩ := hrel
      by_cases hjn : j < n
      · have hjn' : (j : Int) < (n : Int) := by omega
        have hEr := hE.below hbr (Nat.le_refl _)
        obtain ⟨b, off, rfl, hlt, x0, x1, x2⟩ := hEr j hjn
        by_cases h4 : 4 ≤ Ln j
        · have i3 : (3 : Int) < (Ln j : Int) := by omega
          have hbad := chkE_bad (St := St) (Ln := Ln) hjn (by rw [wrE_8 h4]; omega)
          rw [hck, wrE_8 h4] at hbad
          have Hb := hide hbad
          clear hbad hck
          go_wp2_with (refine wpList_store_row rfl 26 _ _ rfl w.heap.size _ rfl rfl 26 _ hzr (by kernel_rfl) rfl (by kernel_rfl) ?_)
          refine bodyPost_ret (results_cell_row rfl _ _ w.heap.size 26 (fltA (8, j)) (0, 0) _ rfl (hzr.setRow _) Try.underlying26 rfl (by kernel_rfl)) rfl ⟨by rw [Hb.out], below_setRow hbr (Nat.le_refl _) _⟩
        · have i3 : (decide ((3 : Int) < (Ln j : Int))) = false := by rw [decide_eq_false_iff_not]; omega
          have d0 : wr.drew.cell? ⟨b, off + j * 3, none⟩ = some (.int .i64 (St j)) := x0
          have hzd : ∀ q, Blk (wr.drewN q) w.heap.size 26 #[.int .i64 0, .int .i64 0] := fun q => hzr.below (below_drewN (Below.refl wr.heap.size wr) q) hzr.lt
          have hbd : ∀ q, Below w.heap.size w (wr.drewN q) := fun q => hbr.trans ((below_drewN (Below.refl wr.heap.size wr) q).mono hbr.size)
          by_cases k1 : St j < 0
          · have hbad := chkE_bad (St := St) (Ln := Ln) hjn (by rw [wrE_7 h4 hpr (Or.inl k1)]; omega)
            rw [hck, wrE_7 h4 hpr (Or.inl k1)] at hbad
            have Hb := hide hbad
            clear hbad hck h4
            go_wp2_with fail
            go_quiet (fail)
            have hzq := hzd nq
            have hbq := hbd nq
            generalize wr.drewN nq = wq at *
            go_wp2_with (refine wpList_store_row rfl 26 _ _ rfl w.heap.size _ rfl rfl 26 _ hzq (by kernel_rfl) rfl (by kernel_rfl) ?_)
            refine bodyPost_ret (results_cell_row rfl _ _ w.heap.size 26 (fltA (7, j)) (0, 0) _ rfl (hzq.setRow _) Try.underlying26 rfl (by kernel_rfl)) rfl ⟨by rw [Hb.out], below_setRow hbq (Nat.le_refl _) _⟩
          · have i4 : (decide (St j < 0)) = false := by rw [decide_eq_false_iff_not]; exact k1
            by_cases k2 : limE < St j
            · have k2' : (26388279066624 : Int) < St j := k2
              have hbad := chkE_bad (St := St) (Ln := Ln) hjn (by rw [wrE_7 h4 hpr (Or.inr (Or.inl k2))]; omega)
              rw [hck, wrE_7 h4 hpr (Or.inr (Or.inl k2))] at hbad
              have Hb := hide hbad
              clear hbad hck h4 k1 k2
              go_wp2_with fail
              go_quiet (fail)
              have hzq := hzd nq
              have hbq := hbd nq
              generalize wr.drewN nq = wq at *
              go_wp2_with (refine wpList_store_row rfl 26 _ _ rfl w.heap.size _ rfl rfl 26 _ hzq (by kernel_rfl) rfl (by kernel_rfl) ?_)
              refine bodyPost_ret (results_cell_row rfl _ _ w.heap.size 26 (fltA (7, j)) (0, 0) _ rfl (hzq.setRow _) Try.underlying26 rfl (by kernel_rfl)) rfl ⟨by rw [Hb.out], below_setRow hbq (Nat.le_refl _) _⟩
            · have i5 : (decide ((26388279066624 : Int) < St j)) = false := by rw [decide_eq_false_iff_not]; exact k2
              by_cases j0 : 0 < j
              · have j0' : (0 : Int) < (j : Int) := by omega
                obtain ⟨b2, off2, he2, hlt2, z0, _, _⟩ := hEr (j - 1) (by omega)
                cases he2
                obtain ⟨j1, hj1⟩ : ∃ j1, j - 1 = j1 := ⟨_, rfl⟩
                rw [hj1] at z0
                have ej : (j : Int) - 1 = (j1 : Int) := by omega
                have j1' : (j1 : Int) < (n : Int) := by omega
                have j2' : (decide ((n : Int) ≤ (j1 : Int))) = false := by rw [decide_eq_false_iff_not]; omega
                have d1 : wr.drew.cell? ⟨b, off + j1 * 3, none⟩ = some (.int .i64 (St j1)) := z0
                have hjm : j1 < n := by omega
                rw [hj1] at hpr
                by_cases k3 : St j < St j1
                · have hw : wrE St Ln j = 7 := wrE_7 h4 (by rw [hj1]; exact hpr) (Or.inr (Or.inr ⟨j0, by rw [hj1]; exact k3⟩))
                  have hbad := chkE_bad (St := St) (Ln := Ln) hjn (by rw [hw]; omega)
                  rw [hck, hw] at hbad
                  have Hb := hide hbad
                  clear hbad hck h4 k1 k2 hw hj1
                  go_wp2_with fail
                  go_quiet (fail)
                  have hzq := hzd nq
                  have hbq := hbd nq
                  generalize wr.drewN nq = wq at *
                  go_wp2_with (refine wpList_store_row rfl 26 _ _ rfl w.heap.size _ rfl rfl 26 _ hzq (by kernel_rfl) rfl (by kernel_rfl) ?_)
                  refine bodyPost_ret (results_cell_row rfl _ _ w.heap.size 26 (fltA (7, j)) (0, 0) _ rfl (hzq.setRow _) Try.underlying26 rfl (by kernel_rfl)) rfl ⟨by rw [Hb.out], below_setRow hbq (Nat.le_refl _) _⟩
                · have k3' : (decide (St j < St j1)) = false := by rw [decide_eq_false_iff_not]; exact k3
                  have hst := chkE_step (St := St) (Ln := Ln) hjn (wrE_0 h4 k1 k2 (by rw [hj1]; omega))
                  have Hs := hide hst
                  clear hst h4 hj1
                  go_wp2_with fail
                  go_quiet (fail)
                  go_wp2_with fail
                  go_roundw
                  case rel => exact ⟨j + 1, by omega, by go_num, by rw [← Hs.out]; exact hck, fun _ => by show 0 ≤ St (j + 1 - 1); rw [Nat.add_sub_cancel]; omega, hzd _, hbd _⟩
                  case measure => simp [intOf]; omega
              · have j0' : (decide ((0 : Int) < (j : Int))) = false := by rw [decide_eq_false_iff_not]; omega
                have j0'' : (decide (0 < j)) = false := by rw [decide_eq_false_iff_not]; omega
                have hst := chkE_step (St := St) (Ln := Ln) hjn (wrE_0 h4 k1 k2 (fun x => j0 x.1))
                have Hs := hide hst
                clear hst h4 j0
                go_wp2_with fail
                go_quiet (fail)
                go_wp2_with fail
                go_roundw
                case rel => exact ⟨j + 1, by omega, by go_num, by rw [← Hs.out]; exact hck, fun _ => by show 0 ≤ St (j + 1 - 1); rw [Nat.add_sub_cancel]; omega, hzd _, hbd _⟩
                case measure => simp [intOf]; omega
      · obtain rfl : j = n := by omega
        rw [Nat.sub_self] at hck
        have hck : chkE St Ln j 0 = (0, 0) := hck.symm
        have Hb := hide hck
        clear hck hE
        go_wp2_with (refine wpList_store_row rfl 26 _ _ rfl w.heap.size _ rfl rfl 26 _ hzr (by kernel_rfl) rfl (by kernel_rfl) ?_)
        refine bodyPost_ret (results_cell_row rfl _ _ w.heap.size 26 (fltA (0, 0)) (0, 0) _ rfl (hzr.setRow _) Try.underlying26 rfl (by kernel_rfl)) rfl ⟨by rw [Hb.out], below_setRow hbr (Nat.le_refl _) _⟩
end Go.Proofs.Ytdnpfddepnefnaa
