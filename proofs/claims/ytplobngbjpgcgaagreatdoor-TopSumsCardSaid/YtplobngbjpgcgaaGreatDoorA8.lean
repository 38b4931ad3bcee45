/-
  The texts Phys, R03 of the proof of TopSums, as one file (they are merged by a program).
-/
import Derived.Test.YtplobngbjpgcgaaGreatDoorA1
import Derived.Test.YtplobngbjpgcgaaGreatDoorA7
section
/-
  Package phys: Addr, Bank, Off, units, Where, Extra, Reg.
-/
namespace Go.Proofs.YtplobngbjpgcgaaGreatDoor
set_option linter.unusedSimpArgs false
set_option linter.unusedVariables false
set_option maxRecDepth 10000
open Go.RowKit Pl

theorem phAddr_calls (b o : Nat) (w : World) (hb : b < 256) (ho : o < 65536) :
    Calls Tryz.prog 78 #[.int .u8 (b : Int), .int .u16 (o : Int)] w fun e w' => e = .returned (.int .u32 (adr b o : Nat)) ∧ w = w' := by
  have h1 : bits .and .u32 (o : Int) 8191 = ((o % 8192 : Nat) : Int) := by
    rw [show (8191 : Int) = ((8191 : Nat) : Int) from rfl, u32_and_nat _ _ (by omega) (by omega), and_8191]
  have h2 : bits .or .u32 ((b * 8192 : Nat) : Int) ((o % 8192 : Nat) : Int) = ((adr b o : Nat) : Int) := by
    rw [u32_or_nat _ _ (by omega) (by omega), adr_or]
  go_enter Tryz.func78, Tryz.ntmps78
  go_wp2
  go_ret
  exact ⟨ret_int (by rw [← h2]; first | rfl | (congr 1; omega)), rfl⟩
theorem phBank_calls (a : Nat) (w : World) (ha : a < 4294967296) :
    Calls Tryz.prog 75 #[.int .u32 (a : Int)] w fun e w' => e = .returned (.int .u8 (bnk a : Nat)) ∧ w = w' := by
  go_enter Tryz.func75, Tryz.ntmps75
  go_wp2
  go_ret
  exact ⟨ret_int (by unfold bnk; first | rfl | (rw [IntKind.wrap_u8]; omega) | omega), rfl⟩
theorem phOff_calls (a : Nat) (w : World) (ha : a < 4294967296) :
    Calls Tryz.prog 29 #[.int .u32 (a : Int)] w fun e w' => e = .returned (.int .u16 ((a % 8192 : Nat) : Int)) ∧ w = w' := by
  have h1 : bits .and .u32 (a : Int) 8191 = ((a % 8192 : Nat) : Int) := by
    rw [show (8191 : Int) = ((8191 : Nat) : Int) from rfl, u32_and_nat _ _ (by omega) (by omega), and_8191]
  go_enter Tryz.func29, Tryz.ntmps29
  go_wp2
  go_ret
  exact ⟨ret_int (by first | rfl | (rw [IntKind.wrap_u16]; omega) | omega), rfl⟩
def unitsA : Array Value := #[.int .u16 6144, .int .u8 2, .int .u16 5120, .int .u8 8, .int .u16 4096, .int .u8 7, .int .u16 3072, .int .u8 6, .int .u16 2048, .int .u8 5, .int .u16 1024, .int .u8 4, .int .u16 0, .int .u8 3]
theorem phUnits_calls (w : World) :
    Calls Tryz.prog 76 #[] w fun e w' => e = .returned (.agg unitsA) ∧ Below w.heap.size w w' := by
  go_enter Tryz.func76, Tryz.ntmps76
  go_wp2
  refine bodyPost_ret (results_cell_row rfl _ _ w.heap.size 130 unitsA (0, 0) _ rfl (heap_alloc_new w _) Tryz.underlying130 rfl (by kernel_rfl)) rfl ⟨rfl, ?_⟩
  exact (Below.refl _ _).alloc (Nat.le_refl _) _
theorem whr_rom (a : Nat) (h : bnk a < 128) : whr a = 0 := by unfold whr whB; rw [if_pos h]
theorem whr_ram (a : Nat) (h : 248 ≤ bnk a) (h2 : bnk a ≤ 251) : whr a = 1 := by unfold whr whB; rw [if_neg (by omega), if_pos ⟨h, h2⟩]
theorem whr_no (a : Nat) (h : 128 ≤ bnk a) (h2 : bnk a < 248 ∨ 251 < bnk a) (h3 : bnk a ≠ 255) : whr a = 2 := by unfold whr whB; rw [if_neg (by omega), if_neg (by omega), if_neg h3]
theorem whr_hard (a : Nat) (h : bnk a = 255) : whr a = whO (a % 8192) := by unfold whr whB; rw [if_neg (by omega), if_neg (by omega), if_pos h]
set_option maxHeartbeats 4000000 in
theorem phWhere_calls (a : Nat) (w : World) (ha : a < 4294967296) :
    Calls Tryz.prog 27 #[.int .u32 (a : Int)] w fun e w' => e = .returned (.int .u8 (whr a : Nat)) ∧ Below w.heap.size w w' := by
  have hB := bnk_lt a
  by_cases h1 : bnk a < 128
  · have hi : (bnk a : Int) ≤ 127 := by omega
    have hW := hide (whr_rom a h1)
    go_enter Tryz.func27, Tryz.ntmps27
    (go_wp2_with fail; refine Cl.p (phBank_calls a _ ha) ?_)
    go_wp2_with fail
    go_ret
    exact ⟨ret_int (by rw [hW.out]; rfl), by (repeat (first | exact Below.refl _ _ | assumption | refine Below.drew ?_ | refine Bl.alloc ?_ _ | refine below_drewN ?_ _ | refine Bl.chain ?_ (by assumption) (Nat.le_refl _)))⟩
  · have hi : ¬ (bnk a : Int) ≤ 127 := by omega
    by_cases h2 : 248 ≤ bnk a ∧ bnk a ≤ 251
    · have hi2 : (248 : Int) ≤ (bnk a : Int) := by omega
      have hi3 : (bnk a : Int) ≤ 251 := by omega
      have hW := hide (whr_ram a h2.1 h2.2)
      go_enter Tryz.func27, Tryz.ntmps27
      (go_wp2_with fail; refine Cl.p (phBank_calls a _ ha) ?_)
      go_wp2_with fail
      go_ret
      exact ⟨ret_int (by rw [hW.out]; rfl), by (repeat (first | exact Below.refl _ _ | assumption | refine Below.drew ?_ | refine Bl.alloc ?_ _ | refine below_drewN ?_ _ | refine Bl.chain ?_ (by assumption) (Nat.le_refl _)))⟩
    · have hi2 : (bnk a : Int) < 248 ∨ ((248 : Int) ≤ (bnk a : Int) ∧ ¬ (bnk a : Int) ≤ 251) := by omega
      by_cases h3 : bnk a = 255
      · have hW := hide (whr_hard a h3)
        have h4 : 248 ≤ bnk a := by omega
        have hi4 : (248 : Int) ≤ (bnk a : Int) := by omega
        have hi5 : ¬ (bnk a : Int) ≤ 251 := by omega
        have hi6 : ((bnk a : Int) != 255) = false := by rw [h3]; rfl
        clear hi2 h2
        go_enter Tryz.func27, Tryz.ntmps27
        (go_wp2_with fail; refine Cl.p (phBank_calls a _ ha) ?_)
        (go_wp2_with fail; refine Cl.m (phUnits_calls _) ?_; intro w1 hb1)
        go_wp2_with fail
        have ho : a % 8192 < 8192 := Nat.mod_lt _ (by omega)
        have hoff := phOff_calls a
        generalize a % 8192 = o at *
        go_loopw [5, 22] (fun u i wr => ∃ k : Nat, k ≤ 6 ∧ i = .int .i64 (k : Int) ∧ (k = 0 ∨ o < (7 - k) * 1024) ∧ Below w.heap.size w wr) (fun _ i _ => 7 - (intOf i).toNat)
        case atStart => exact ⟨0, by omega, rfl, Or.inl rfl, by (repeat (first | exact Below.refl _ _ | assumption | refine Below.drew ?_ | refine Bl.alloc ?_ _ | refine below_drewN ?_ _ | refine Bl.chain ?_ (by assumption) (Nat.le_refl _)))⟩
        case round =>
          obtain ⟨k, hk, rfl, hlo, hbel⟩ := hrel
          have hk7 : k = 0 ∨ k = 1 ∨ k = 2 ∨ k = 3 ∨ k = 4 ∨ k = 5 ∨ k = 6 := by omega
          rcases hk7 with rfl | rfl | rfl | rfl | rfl | rfl | rfl
          · have hx : ∀ W, (Instr.index 130 (.agg unitsA) (.int .i64 0)).run Tryz.prog W = .ok (.agg #[.int .u16 6144, .int .u8 2]) W := fun W => by kernel_rfl
            by_cases hge : 6144 ≤ o
            · have hge' : (6144 : Int) ≤ (o : Int) := by omega
              have hv : whO o = 2 := by unfold whO; repeat (first | rw [if_pos (by omega)] | rw [if_neg (by omega)])
              have HV := hide hv
              clear hv
              go_wp2_with fail
              go_quiet ((go_at_call 29; first | exact quiet_left (hoff _ ha) | exact quiet_add_left (hoff _ ha)))
              go_wp2_with fail
              go_ret
              exact ⟨ret_int (by rw [hW.out, HV.out]; rfl), by (repeat (first | exact Below.refl _ _ | assumption | refine Below.drew ?_ | refine Bl.alloc ?_ _ | refine below_drewN ?_ _ | refine Bl.chain ?_ (by assumption) (Nat.le_refl _)))⟩
            · have hge' : (decide ((6144 : Int) ≤ (o : Int))) = false := by rw [decide_eq_false_iff_not]; omega
              go_wp2_with fail
              go_quiet ((go_at_call 29; first | exact quiet_left (hoff _ ha) | exact quiet_add_left (hoff _ ha)))
              go_wp2_with fail
              go_roundw
              case rel => exact ⟨1, by omega, by go_num, Or.inr (by omega), by (repeat (first | exact Below.refl _ _ | assumption | refine Below.drew ?_ | refine Bl.alloc ?_ _ | refine below_drewN ?_ _ | refine Bl.chain ?_ (by assumption) (Nat.le_refl _)))⟩
              case measure => simp [intOf]
          · have hx : ∀ W, (Instr.index 130 (.agg unitsA) (.int .i64 1)).run Tryz.prog W = .ok (.agg #[.int .u16 5120, .int .u8 8]) W := fun W => by kernel_rfl
            by_cases hge : 5120 ≤ o
            · have hge' : (5120 : Int) ≤ (o : Int) := by omega
              have hv : whO o = 8 := by unfold whO; repeat (first | rw [if_pos (by omega)] | rw [if_neg (by omega)])
              have HV := hide hv
              clear hv
              go_wp2_with fail
              go_quiet ((go_at_call 29; first | exact quiet_left (hoff _ ha) | exact quiet_add_left (hoff _ ha)))
              go_wp2_with fail
              go_ret
              exact ⟨ret_int (by rw [hW.out, HV.out]; rfl), by (repeat (first | exact Below.refl _ _ | assumption | refine Below.drew ?_ | refine Bl.alloc ?_ _ | refine below_drewN ?_ _ | refine Bl.chain ?_ (by assumption) (Nat.le_refl _)))⟩
            · have hge' : (decide ((5120 : Int) ≤ (o : Int))) = false := by rw [decide_eq_false_iff_not]; omega
              go_wp2_with fail
              go_quiet ((go_at_call 29; first | exact quiet_left (hoff _ ha) | exact quiet_add_left (hoff _ ha)))
              go_wp2_with fail
              go_roundw
              case rel => exact ⟨2, by omega, by go_num, Or.inr (by omega), by (repeat (first | exact Below.refl _ _ | assumption | refine Below.drew ?_ | refine Bl.alloc ?_ _ | refine below_drewN ?_ _ | refine Bl.chain ?_ (by assumption) (Nat.le_refl _)))⟩
              case measure => simp [intOf]
          · have hx : ∀ W, (Instr.index 130 (.agg unitsA) (.int .i64 2)).run Tryz.prog W = .ok (.agg #[.int .u16 4096, .int .u8 7]) W := fun W => by kernel_rfl
            by_cases hge : 4096 ≤ o
            · have hge' : (4096 : Int) ≤ (o : Int) := by omega
              have hv : whO o = 7 := by unfold whO; repeat (first | rw [if_pos (by omega)] | rw [if_neg (by omega)])
              have HV := hide hv
              clear hv
              go_wp2_with fail
              go_quiet ((go_at_call 29; first | exact quiet_left (hoff _ ha) | exact quiet_add_left (hoff _ ha)))
              go_wp2_with fail
              go_ret
              exact ⟨ret_int (by rw [hW.out, HV.out]; rfl), by (repeat (first | exact Below.refl _ _ | assumption | refine Below.drew ?_ | refine Bl.alloc ?_ _ | refine below_drewN ?_ _ | refine Bl.chain ?_ (by assumption) (Nat.le_refl _)))⟩
            · have hge' : (decide ((4096 : Int) ≤ (o : Int))) = false := by rw [decide_eq_false_iff_not]; omega
              go_wp2_with fail
              go_quiet ((go_at_call 29; first | exact quiet_left (hoff _ ha) | exact quiet_add_left (hoff _ ha)))
              go_wp2_with fail
              go_roundw
              case rel => exact ⟨3, by omega, by go_num, Or.inr (by omega), by (repeat (first | exact Below.refl _ _ | assumption | refine Below.drew ?_ | refine Bl.alloc ?_ _ | refine below_drewN ?_ _ | refine Bl.chain ?_ (by assumption) (Nat.le_refl _)))⟩
              case measure => simp [intOf]
          · have hx : ∀ W, (Instr.index 130 (.agg unitsA) (.int .i64 3)).run Tryz.prog W = .ok (.agg #[.int .u16 3072, .int .u8 6]) W := fun W => by kernel_rfl
            by_cases hge : 3072 ≤ o
            · have hge' : (3072 : Int) ≤ (o : Int) := by omega
              have hv : whO o = 6 := by unfold whO; repeat (first | rw [if_pos (by omega)] | rw [if_neg (by omega)])
              have HV := hide hv
              clear hv
              go_wp2_with fail
              go_quiet ((go_at_call 29; first | exact quiet_left (hoff _ ha) | exact quiet_add_left (hoff _ ha)))
              go_wp2_with fail
              go_ret
              exact ⟨ret_int (by rw [hW.out, HV.out]; rfl), by (repeat (first | exact Below.refl _ _ | assumption | refine Below.drew ?_ | refine Bl.alloc ?_ _ | refine below_drewN ?_ _ | refine Bl.chain ?_ (by assumption) (Nat.le_refl _)))⟩
            · have hge' : (decide ((3072 : Int) ≤ (o : Int))) = false := by rw [decide_eq_false_iff_not]; omega
              go_wp2_with fail
              go_quiet ((go_at_call 29; first | exact quiet_left (hoff _ ha) | exact quiet_add_left (hoff _ ha)))
              go_wp2_with fail
              go_roundw
              case rel => exact ⟨4, by omega, by go_num, Or.inr (by omega), by (repeat (first | exact Below.refl _ _ | assumption | refine Below.drew ?_ | refine Bl.alloc ?_ _ | refine below_drewN ?_ _ | refine Bl.chain ?_ (by assumption) (Nat.le_refl _)))⟩
              case measure => simp [intOf]
          · have hx : ∀ W, (Instr.index 130 (.agg unitsA) (.int .i64 4)).run Tryz.prog W = .ok (.agg #[.int .u16 2048, .int .u8 5]) W := fun W => by kernel_rfl
            by_cases hge : 2048 ≤ o
            · have hge' : (2048 : Int) ≤ (o : Int) := by omega
              have hv : whO o = 5 := by unfold whO; repeat (first | rw [if_pos (by omega)] | rw [if_neg (by omega)])
              have HV := hide hv
              clear hv
              go_wp2_with fail
              go_quiet ((go_at_call 29; first | exact quiet_left (hoff _ ha) | exact quiet_add_left (hoff _ ha)))
              go_wp2_with fail
              go_ret
              exact ⟨ret_int (by rw [hW.out, HV.out]; rfl), by (repeat (first | exact Below.refl _ _ | assumption | refine Below.drew ?_ | refine Bl.alloc ?_ _ | refine below_drewN ?_ _ | refine Bl.chain ?_ (by assumption) (Nat.le_refl _)))⟩
            · have hge' : (decide ((2048 : Int) ≤ (o : Int))) = false := by rw [decide_eq_false_iff_not]; omega
              go_wp2_with fail
              go_quiet ((go_at_call 29; first | exact quiet_left (hoff _ ha) | exact quiet_add_left (hoff _ ha)))
              go_wp2_with fail
              go_roundw
              case rel => exact ⟨5, by omega, by go_num, Or.inr (by omega), by (repeat (first | exact Below.refl _ _ | assumption | refine Below.drew ?_ | refine Bl.alloc ?_ _ | refine below_drewN ?_ _ | refine Bl.chain ?_ (by assumption) (Nat.le_refl _)))⟩
              case measure => simp [intOf]
          · have hx : ∀ W, (Instr.index 130 (.agg unitsA) (.int .i64 5)).run Tryz.prog W = .ok (.agg #[.int .u16 1024, .int .u8 4]) W := fun W => by kernel_rfl
            by_cases hge : 1024 ≤ o
            · have hge' : (1024 : Int) ≤ (o : Int) := by omega
              have hv : whO o = 4 := by unfold whO; repeat (first | rw [if_pos (by omega)] | rw [if_neg (by omega)])
              have HV := hide hv
              clear hv
              go_wp2_with fail
              go_quiet ((go_at_call 29; first | exact quiet_left (hoff _ ha) | exact quiet_add_left (hoff _ ha)))
              go_wp2_with fail
              go_ret
              exact ⟨ret_int (by rw [hW.out, HV.out]; rfl), by (repeat (first | exact Below.refl _ _ | assumption | refine Below.drew ?_ | refine Bl.alloc ?_ _ | refine below_drewN ?_ _ | refine Bl.chain ?_ (by assumption) (Nat.le_refl _)))⟩
            · have hge' : (decide ((1024 : Int) ≤ (o : Int))) = false := by rw [decide_eq_false_iff_not]; omega
              go_wp2_with fail
              go_quiet ((go_at_call 29; first | exact quiet_left (hoff _ ha) | exact quiet_add_left (hoff _ ha)))
              go_wp2_with fail
              go_roundw
              case rel => exact ⟨6, by omega, by go_num, Or.inr (by omega), by (repeat (first | exact Below.refl _ _ | assumption | refine Below.drew ?_ | refine Bl.alloc ?_ _ | refine below_drewN ?_ _ | refine Bl.chain ?_ (by assumption) (Nat.le_refl _)))⟩
              case measure => simp [intOf]
          · have hx : ∀ W, (Instr.index 130 (.agg unitsA) (.int .i64 6)).run Tryz.prog W = .ok (.agg #[.int .u16 0, .int .u8 3]) W := fun W => by kernel_rfl
            have hge' : (0 : Int) ≤ (o : Int) := by omega
            have hv : whO o = 3 := by unfold whO; repeat (first | rw [if_pos (by omega)] | rw [if_neg (by omega)])
            have HV := hide hv
            clear hv
            go_wp2_with fail
            go_quiet ((go_at_call 29; first | exact quiet_left (hoff _ ha) | exact quiet_add_left (hoff _ ha)))
            go_wp2_with fail
            go_ret
            exact ⟨ret_int (by rw [hW.out, HV.out]; rfl), by (repeat (first | exact Below.refl _ _ | assumption | refine Below.drew ?_ | refine Bl.alloc ?_ _ | refine below_drewN ?_ _ | refine Bl.chain ?_ (by assumption) (Nat.le_refl _)))⟩
      · have hi6 : ((bnk a : Int) != 255) = true := by rw [bne_iff_ne]; omega
        rcases hi2 with hi4 | ⟨hi4, hi5⟩
        · have hi5 : (decide ((248 : Int) ≤ (bnk a : Int))) = false := by rw [decide_eq_false_iff_not]; omega
          have hW := hide (whr_no a (by omega) (by omega) h3)
          clear hi4
          go_enter Tryz.func27, Tryz.ntmps27
          (go_wp2_with fail; refine Cl.p (phBank_calls a _ ha) ?_)
          go_wp2_with fail
          go_ret
          exact ⟨ret_int (by rw [hW.out]; rfl), by (repeat (first | exact Below.refl _ _ | assumption | refine Below.drew ?_ | refine Bl.alloc ?_ _ | refine below_drewN ?_ _ | refine Bl.chain ?_ (by assumption) (Nat.le_refl _)))⟩
        · have hW := hide (whr_no a (by omega) (by omega) h3)
          go_enter Tryz.func27, Tryz.ntmps27
          (go_wp2_with fail; refine Cl.p (phBank_calls a _ ha) ?_)
          go_wp2_with fail
          go_ret
          exact ⟨ret_int (by rw [hW.out]; rfl), by (repeat (first | exact Below.refl _ _ | assumption | refine Below.drew ?_ | refine Bl.alloc ?_ _ | refine below_drewN ?_ _ | refine Bl.chain ?_ (by assumption) (Nat.le_refl _)))⟩
end Go.Proofs.YtplobngbjpgcgaaGreatDoor
end
section
/-
  Package phys: Extra, Reg; gannetref03: Bank, Off, Where, Extra, Reg.
-/
namespace Go.Proofs.YtplobngbjpgcgaaGreatDoor
set_option linter.unusedSimpArgs false
set_option linter.unusedVariables false
set_option maxRecDepth 10000
open Go.RowKit Pl

theorem whO_le (o : Nat) : whO o ≤ 8 := by unfold whO; repeat (first | omega | split)
theorem whr_le (a : Nat) : whr a ≤ 8 := by unfold whr whB; repeat (first | omega | exact whO_le _ | split)
def exO (v : Nat) : Bool := v == 3 || v == 4
theorem phExtra_calls (a : Nat) (w : World) (ha : a < 4294967296) :
    Calls Tryz.prog 190 #[.int .u32 (a : Int)] w fun e w' => e = .returned (.bool (exO (whr a))) ∧ Below w.heap.size w w' := by
  have hl := whr_le a
  have hc := phWhere_calls a
  generalize whr a = v at *
  have hv : v = 0 ∨ v = 1 ∨ v = 2 ∨ v = 3 ∨ v = 4 ∨ v = 5 ∨ v = 6 ∨ v = 7 ∨ v = 8 := by omega
  rcases hv with rfl | rfl | rfl | rfl | rfl | rfl | rfl | rfl | rfl
  all_goals
    go_enter Tryz.func190, Tryz.ntmps190
    (go_wp2_with fail; refine Cl.m (hc _ ha) ?_; intro w1 hb1)
    go_wp2_with fail
    go_ret
    exact ⟨rfl, by (repeat (first | exact Below.refl _ _ | assumption | refine Below.drew ?_ | refine Bl.alloc ?_ _ | refine below_drewN ?_ _ | refine Bl.chain ?_ (by assumption) (Nat.le_refl _)))⟩
end Go.Proofs.YtplobngbjpgcgaaGreatDoor
end
