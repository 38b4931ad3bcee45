/-
  The texts Ln1, Ln2 of the proof of TopSums, as one file (they are merged by a program).
-/
import Derived.Test.YtplobngbjpgcgaaGreatDoorA2
import Derived.WalkMore
section
/-
  lines: wrong, Check, At; gannetref07: Check, At.
-/
namespace Go.Proofs.YtplobngbjpgcgaaGreatDoor
set_option linter.unusedSimpArgs false
set_option linter.unusedVariables false
set_option maxRecDepth 10000
open Go.RowKit

def wrV (s : Int) (y : Nat) (ahead : Int) : Nat := if 4 ≤ y then 8 else if s < ahead ∨ limE < s then 7 else 0
theorem lnWrong_calls (s : Int) (y : Nat) (u : Bool) (ahead : Int) (w : World) :
    Calls Tryz.prog 140 #[.agg #[.int .i64 s, .int .u8 (y : Int), .bool u], .int .i64 ahead] w fun e w' => e = .returned (.int .i64 (wrV s y ahead : Nat)) ∧ Below w.heap.size w w' := by
  have hz : Blk (w.alloc (.cells #[.int .i64 s, .int .u8 (y : Int), .bool u] 144)) w.heap.size 144 #[.int .i64 s, .int .u8 (y : Int), .bool u] := Blk.new _ _ _
  by_cases h4 : 4 ≤ y
  · have i1 : (4 : Int) ≤ (y : Int) := by omega
    have e : wrV s y ahead = 8 := if_pos h4
    rw [e]
    clear e h4
    go_enter Tryz.func140, Tryz.ntmps140
    go_wp2_with fail
    go_ret
    exact ⟨rfl, by (repeat (first | exact Below.refl _ _ | assumption | refine Below.drew ?_ | refine Bl.alloc ?_ _ | refine below_drewN ?_ _ | refine Bl.chain ?_ (by assumption) (Nat.le_refl _)))⟩
  · have i1 : (decide ((4 : Int) ≤ (y : Int))) = false := by rw [decide_eq_false_iff_not]; omega
    by_cases h5 : s < ahead
    · have e : wrV s y ahead = 7 := by unfold wrV; rw [if_neg h4, if_pos (Or.inl h5)]
      rw [e]
      clear e h4
      go_enter Tryz.func140, Tryz.ntmps140
      go_wp2_with fail
      go_ret
      exact ⟨rfl, by (repeat (first | exact Below.refl _ _ | assumption | refine Below.drew ?_ | refine Bl.alloc ?_ _ | refine below_drewN ?_ _ | refine Bl.chain ?_ (by assumption) (Nat.le_refl _)))⟩
    · have i2 : (decide (s < ahead)) = false := by rw [decide_eq_false_iff_not]; exact h5
      by_cases h6 : limE < s
      · have e : wrV s y ahead = 7 := by unfold wrV; rw [if_neg h4, if_pos (Or.inr h6)]
        have h6' : (26388279066624 : Int) < s := h6
        rw [e]
        clear e h4 h5 h6
        go_enter Tryz.func140, Tryz.ntmps140
        go_wp2_with fail
        go_ret
        exact ⟨rfl, by (repeat (first | exact Below.refl _ _ | assumption | refine Below.drew ?_ | refine Bl.alloc ?_ _ | refine below_drewN ?_ _ | refine Bl.chain ?_ (by assumption) (Nat.le_refl _)))⟩
      · have e : wrV s y ahead = 0 := by unfold wrV; rw [if_neg h4, if_neg (fun x => x.elim h5 h6)]
        have i3 : (decide ((26388279066624 : Int) < s)) = false := by rw [decide_eq_false_iff_not]; exact h6
        rw [e]
        clear e h4 h5 h6
        go_enter Tryz.func140, Tryz.ntmps140
        go_wp2_with fail
        go_ret
        exact ⟨rfl, by (repeat (first | exact Below.refl _ _ | assumption | refine Below.drew ?_ | refine Bl.alloc ?_ _ | refine below_drewN ?_ _ | refine Bl.chain ?_ (by assumption) (Nat.le_refl _)))⟩
theorem wrV_wrE (St : Nat → Int) (Ln : Nat → Nat) (i : Nat) : wrV (St i) (Ln i) (if i = 0 then 0 else St (i - 1)) = wrE St Ln i := rfl
def fltA (p : Nat × Nat) : Array Value := #[.int .i64 (p.1 : Int), .int .i64 (p.2 : Int)]
set_option maxHeartbeats 4000000 in
theorem lnCheck_calls (o : Option Addr) (n c : Nat) (St : Nat → Int) (Ln : Nat → Nat) (Up : Nat → Bool) (w : World) (hE : EdgB w o n St Ln Up w.heap.size) :
    Calls Tryz.prog 80 #[.slice o n c] w fun e w' => e = .returned (.agg (fltA (chkV St Ln n))) ∧ Below w.heap.size w w' := by
  have hz : Blk (w.alloc (.cells #[.int .i64 0, .int .i64 0] 48)) w.heap.size 48 #[.int .i64 0, .int .i64 0] := Blk.new _ _ _
  by_cases h1 : 1000 < n
  · have i1 : (1000 : Int) < (n : Int) := by omega
    have e : chkV St Ln n = (2, 1000) := if_pos h1
    rw [e]
    clear e h1
    go_enter Tryz.func80, Tryz.ntmps80
    go_wp2_with fail
    refine bodyPost_ret (results_cell_row rfl _ _ w.heap.size 48 (fltA (2, 1000)) (0, 0) _ rfl (by first | exact heap_alloc_new w _ | exact hz.setRow _) Tryz.underlying48 rfl (by kernel_rfl)) rfl ⟨rfl, by first | exact (Below.refl _ _).alloc (Nat.le_refl _) _ | exact below_setRow ((Below.refl _ _).alloc (Nat.le_refl _) _) (Nat.le_refl _) _⟩
  · have i1 : (decide ((1000 : Int) < (n : Int))) = false := by rw [decide_eq_false_iff_not]; omega
    have e : chkV St Ln n = chkE St Ln n 0 := if_neg h1
    rw [e]
    have hn : n ≤ 1000 := by omega
    clear e h1
    go_enter Tryz.func80, Tryz.ntmps80
    go_wp2_with fail
    go_loopw [3, 13] (fun a i wr => ∃ j : Nat, j ≤ n ∧ i = .int .i64 (j : Int) ∧ a = .int .i64 (if j = 0 then 0 else St (j - 1)) ∧ chkE St Ln (n - j) j = chkE St Ln n 0 ∧ Blk wr w.heap.size 48 #[.int .i64 0, .int .i64 0] ∧ Below w.heap.size w wr) (fun _ i _ => n - (intOf i).toNat)
    case atStart => exact ⟨0, by omega, rfl, rfl, rfl, hz, (Below.refl _ _).alloc (Nat.le_refl _) _⟩
    case round =>
      obtain ⟨j, hj, rfl, rfl, hck, hzr, hbr⟩ := hrel
      by_cases hjn : j < n
      · have hjn' : (j : Int) < (n : Int) := by omega
        obtain ⟨b, off, rfl, hlt, x0, x1, x2⟩ := (hE.below hbr (Nat.le_refl _)) j hjn
        have hw := wrV_wrE St Ln j
        generalize (if j = 0 then 0 else St (j - 1)) = ah at *
        have hws : ∀ W, Calls Tryz.prog 140 #[.agg #[.int .i64 (St j), .int .u8 (Ln j : Int), .bool (Up j)], .int .i64 ah] W fun e w' => e = .returned (.int .i64 (wrE St Ln j : Nat)) ∧ Below W.heap.size W w' := fun W => by
          rw [← hw]; exact lnWrong_calls (St j) (Ln j) (Up j) ah W
        have hB := Blk.new wr 144 #[.int .i64 (St j), .int .u8 (Ln j : Int), .bool (Up j)]
        have hlt2 := cell_lt x0
        go_wp2_with fail
        refine Cl.m (hws _) ?_
        intro w1 hb1
        have hB1 := hB.below hb1 hB.lt
        have hz1 := (hzr.alloc (.cells #[.int .i64 (St j), .int .u8 (Ln j : Int), .bool (Up j)] 144)).below hb1 (by have := hzr.lt; simp; omega)
        have y0 : w1.cell? ⟨wr.heap.size, 0, none⟩ = some (.int .i64 (St j)) := hB1.cell 0
        have hb01 : Below w.heap.size w w1 := (hbr.alloc hbr.size _).trans (hb1.mono (by have := hbr.size; simp; omega))
        by_cases hz0 : wrE St Ln j = 0
        · rw [hz0]
          have hst := chkE_step (St := St) (Ln := Ln) hjn hz0
          go_wp2_with fail
          go_roundw
          case rel => exact ⟨j + 1, by omega, by go_num, by rw [if_neg (by omega)]; rfl, by rw [← hst]; exact hck, hz1, hb01⟩
          case measure => simp [intOf]; omega
        · have hne : (((wrE St Ln j : Nat) : Int) != 0) = true := by rw [bne_iff_ne]; omega
          have hbad := chkE_bad (St := St) (Ln := Ln) hjn hz0
          rw [hck] at hbad
          clear hz0 hck
          generalize wrE St Ln j = q at *
          have Hb := hide hbad
          clear hbad
          go_wp2_with (refine wpList_store_row rfl 48 _ _ rfl w.heap.size _ rfl rfl 48 _ hz1 (by kernel_rfl) rfl (by kernel_rfl) ?_)
          refine bodyPost_ret (results_cell_row rfl _ _ w.heap.size 48 (fltA (q, j)) (0, 0) _ rfl (hz1.setRow _) Tryz.underlying48 rfl (by kernel_rfl)) rfl ⟨by rw [Hb.out], below_setRow hb01 (Nat.le_refl _) _⟩
      · obtain rfl : j = n := by omega
        rw [Nat.sub_self] at hck
        have hck : chkE St Ln j 0 = (0, 0) := hck.symm
        have Hb := hide hck
        clear hck hE
        generalize (if j = 0 then 0 else St (j - 1)) = ah at *
        go_wp2_with (refine wpList_store_row rfl 48 _ _ rfl w.heap.size _ rfl rfl 48 _ hzr (by kernel_rfl) rfl (by kernel_rfl) ?_)
        refine bodyPost_ret (results_cell_row rfl _ _ w.heap.size 48 (fltA (0, 0)) (0, 0) _ rfl (hzr.setRow _) Tryz.underlying48 rfl (by kernel_rfl)) rfl ⟨by rw [Hb.out], below_setRow hbr (Nat.le_refl _) _⟩
end Go.Proofs.YtplobngbjpgcgaaGreatDoor
end
section
/-
  gannetref07.Check.
-/
namespace Go.Proofs.YtplobngbjpgcgaaGreatDoor
set_option linter.unusedSimpArgs false
set_option linter.unusedVariables false
set_option maxRecDepth 10000
open Go.RowKit

end Go.Proofs.YtplobngbjpgcgaaGreatDoor
end
