/-
  Package phys: Extra, Reg; gannetref03: Bank, Off, Where, Extra, Reg.
-/
import Derived.Test.YtjaibacpojpfhaaPhys
namespace Go.Proofs.Ytjaibacpojpfhaa
open Go.RowKit Pl

theorem r03Bank_calls (a : Nat) (w : World) (ha : a < 4294967296) :
    Calls Try.prog 33 #[.int .u32 (a : Int)] w fun e w' => e = .returned (.int .i64 (bnk a : Nat)) ∧ w = w' := by
  go_enter Try.func33, Try.ntmps33
  go_wp2
  go_ret
  exact ⟨ret_int (by unfold bnk; omega), rfl⟩
theorem r03Off_calls (a : Nat) (w : World) (ha : a < 4294967296) :
    Calls Try.prog 34 #[.int .u32 (a : Int)] w fun e w' => e = .returned (.int .i64 ((a % 8192 : Nat) : Int)) ∧ w = w' := by
  go_enter Try.func34, Try.ntmps34
  go_wp2
  go_ret
  exact ⟨ret_int (by omega), rfl⟩
theorem r03Where_calls (a : Nat) (w : World) (ha : a < 4294967296) :
    Calls Try.prog 24 #[.int .u32 (a : Int)] w fun e w' => e = .returned (.int .u8 (whr a : Nat)) ∧ Below w.heap.size w w' := by
  have hB := bnk_lt a
  have ho : a % 8192 < 8192 := Nat.mod_lt _ (by omega)
  have hoff := r03Off_calls a
  have hWH := fun h => whr_hard a h
  generalize a % 8192 = o at *
  by_cases h1 : bnk a < 128
  · have hi : (bnk a : Int) < 128 := by omega
    have hW := hide (whr_rom a h1)
    clear hWH
    go_enter Try.func24, Try.ntmps24
    (go_wp2_with fail; refine Cl.p (r03Bank_calls a _ ha) ?_)
    (go_wp2_with fail; refine Cl.p (hoff _ ha) ?_)
    go_wp2_with fail
    go_ret
    exact ⟨ret_int (by rw [hW.out]; rfl), by (repeat (first | exact Below.refl _ _ | assumption | refine Below.drew ?_ | refine Bl.alloc ?_ _ | refine below_drewN ?_ _ | refine Bl.chain ?_ (by assumption) (Nat.le_refl _)))⟩
  · have hi : (decide ((bnk a : Int) < 128)) = false := by rw [decide_eq_false_iff_not]; omega
    by_cases h2 : 248 ≤ bnk a ∧ bnk a ≤ 251
    · have hi2 : (248 : Int) ≤ (bnk a : Int) := by omega
      have hi3 : (bnk a : Int) ≤ 251 := by omega
      have hW := hide (whr_ram a h2.1 h2.2)
      clear hWH
      go_enter Try.func24, Try.ntmps24
      (go_wp2_with fail; refine Cl.p (r03Bank_calls a _ ha) ?_)
      (go_wp2_with fail; refine Cl.p (hoff _ ha) ?_)
      go_wp2_with fail
      go_ret
      exact ⟨ret_int (by rw [hW.out]; rfl), by (repeat (first | exact Below.refl _ _ | assumption | refine Below.drew ?_ | refine Bl.alloc ?_ _ | refine below_drewN ?_ _ | refine Bl.chain ?_ (by assumption) (Nat.le_refl _)))⟩
    · by_cases h3 : bnk a = 255
      · have hW := hide (hWH h3)
        have h4 : 248 ≤ bnk a := by omega
        have hi4 : (248 : Int) ≤ (bnk a : Int) := by omega
        have hi5 : (decide ((bnk a : Int) ≤ 251)) = false := by rw [decide_eq_false_iff_not]; omega
        have hi6 : ((bnk a : Int) != 255) = false := by rw [h3]; rfl
        clear h2 hWH
        by_cases hh : 6144 ≤ o
        · have hh' : (6144 : Int) ≤ (o : Int) := by omega
          have hv : whO o = 2 := by unfold whO; repeat (first | rw [if_pos (by omega)] | rw [if_neg (by omega)])
          have HV := hide hv
          clear hv
          go_enter Try.func24, Try.ntmps24
          (go_wp2_with fail; refine Cl.p (r03Bank_calls a _ ha) ?_)
          (go_wp2_with fail; refine Cl.p (hoff _ ha) ?_)
          go_wp2_with fail
          go_ret
          exact ⟨ret_int (by rw [hW.out, HV.out]; rfl), by (repeat (first | exact Below.refl _ _ | assumption | refine Below.drew ?_ | refine Bl.alloc ?_ _ | refine below_drewN ?_ _ | refine Bl.chain ?_ (by assumption) (Nat.le_refl _)))⟩
        · have hh' : (decide ((6144 : Int) ≤ (o : Int))) = false := by rw [decide_eq_false_iff_not]; omega
          have hd : o / 1024 = 0 ∨ o / 1024 = 1 ∨ o / 1024 = 2 ∨ o / 1024 = 3 ∨ o / 1024 = 4 ∨ o / 1024 = 5 := by omega
          rcases hd with hd | hd | hd | hd | hd | hd
          · have hd' : (o : Int) / 1024 = 0 := by omega
            have hv : whO o = 3 := by unfold whO; repeat (first | rw [if_pos (by omega)] | rw [if_neg (by omega)])
            have HV := hide hv
            clear hv
            go_enter Try.func24, Try.ntmps24
            (go_wp2_with fail; refine Cl.p (r03Bank_calls a _ ha) ?_)
            (go_wp2_with fail; refine Cl.p (hoff _ ha) ?_)
            go_wp2_with fail
            go_ret
            exact ⟨ret_int (by rw [hW.out, HV.out]; rfl), by (repeat (first | exact Below.refl _ _ | assumption | refine Below.drew ?_ | refine Bl.alloc ?_ _ | refine below_drewN ?_ _ | refine Bl.chain ?_ (by assumption) (Nat.le_refl _)))⟩
          · have hd' : (o : Int) / 1024 = 1 := by omega
            have hv : whO o = 4 := by unfold whO; repeat (first | rw [if_pos (by omega)] | rw [if_neg (by omega)])
            have HV := hide hv
            clear hv
            go_enter Try.func24, Try.ntmps24
            (go_wp2_with fail; refine Cl.p (r03Bank_calls a _ ha) ?_)
            (go_wp2_with fail; refine Cl.p (hoff _ ha) ?_)
            go_wp2_with fail
            go_ret
            exact ⟨ret_int (by rw [hW.out, HV.out]; rfl), by (repeat (first | exact Below.refl _ _ | assumption | refine Below.drew ?_ | refine Bl.alloc ?_ _ | refine below_drewN ?_ _ | refine Bl.chain ?_ (by assumption) (Nat.le_refl _)))⟩
          · have hd' : (o : Int) / 1024 = 2 := by omega
            have hv : whO o = 5 := by unfold whO; repeat (first | rw [if_pos (by omega)] | rw [if_neg (by omega)])
            have HV := hide hv
            clear hv
            go_enter Try.func24, Try.ntmps24
            (go_wp2_with fail; refine Cl.p (r03Bank_calls a _ ha) ?_)
            (go_wp2_with fail; refine Cl.p (hoff _ ha) ?_)
            go_wp2_with fail
            go_ret
            exact ⟨ret_int (by rw [hW.out, HV.out]; rfl), by (repeat (first | exact Below.refl _ _ | assumption | refine Below.drew ?_ | refine Bl.alloc ?_ _ | refine below_drewN ?_ _ | refine Bl.chain ?_ (by assumption) (Nat.le_refl _)))⟩
          · have hd' : (o : Int) / 1024 = 3 := by omega
            have hv : whO o = 6 := by unfold whO; repeat (first | rw [if_pos (by omega)] | rw [if_neg (by omega)])
            have HV := hide hv
            clear hv
            go_enter Try.func24, Try.ntmps24
            (go_wp2_with fail; refine Cl.p (r03Bank_calls a _ ha) ?_)
            (go_wp2_with fail; refine Cl.p (hoff _ ha) ?_)
            go_wp2_with fail
            go_ret
            exact ⟨ret_int (by rw [hW.out, HV.out]; rfl), by (repeat (first | exact Below.refl _ _ | assumption | refine Below.drew ?_ | refine Bl.alloc ?_ _ | refine below_drewN ?_ _ | refine Bl.chain ?_ (by assumption) (Nat.le_refl _)))⟩
          · have hd' : (o : Int) / 1024 = 4 := by omega
            have hv : whO o = 7 := by unfold whO; repeat (first | rw [if_pos (by omega)] | rw [if_neg (by omega)])
            have HV := hide hv
            clear hv
            go_enter Try.func24, Try.ntmps24
            (go_wp2_with fail; refine Cl.p (r03Bank_calls a _ ha) ?_)
            (go_wp2_with fail; refine Cl.p (hoff _ ha) ?_)
            go_wp2_with fail
            go_ret
            exact ⟨ret_int (by rw [hW.out, HV.out]; rfl), by (repeat (first | exact Below.refl _ _ | assumption | refine Below.drew ?_ | refine Bl.alloc ?_ _ | refine below_drewN ?_ _ | refine Bl.chain ?_ (by assumption) (Nat.le_refl _)))⟩
          · have hd' : (o : Int) / 1024 = 5 := by omega
            have hv : whO o = 8 := by unfold whO; repeat (first | rw [if_pos (by omega)] | rw [if_neg (by omega)])
            have HV := hide hv
            clear hv
            go_enter Try.func24, Try.ntmps24
            (go_wp2_with fail; refine Cl.p (r03Bank_calls a _ ha) ?_)
            (go_wp2_with fail; refine Cl.p (hoff _ ha) ?_)
            go_wp2_with fail
            go_ret
            exact ⟨ret_int (by rw [hW.out, HV.out]; rfl), by (repeat (first | exact Below.refl _ _ | assumption | refine Below.drew ?_ | refine Bl.alloc ?_ _ | refine below_drewN ?_ _ | refine Bl.chain ?_ (by assumption) (Nat.le_refl _)))⟩
      · have hi6 : ((bnk a : Int) != 255) = true := by rw [bne_iff_ne]; omega
        clear hWH
        by_cases h4 : bnk a < 248
        · have hi5 : (decide ((248 : Int) ≤ (bnk a : Int))) = false := by rw [decide_eq_false_iff_not]; omega
          have hW := hide (whr_no a (by omega) (by omega) h3)
          clear h4 h2
          go_enter Try.func24, Try.ntmps24
          (go_wp2_with fail; refine Cl.p (r03Bank_calls a _ ha) ?_)
          (go_wp2_with fail; refine Cl.p (hoff _ ha) ?_)
          go_wp2_with fail
          go_ret
          exact ⟨ret_int (by rw [hW.out]; rfl), by (repeat (first | exact Below.refl _ _ | assumption | refine Below.drew ?_ | refine Bl.alloc ?_ _ | refine below_drewN ?_ _ | refine Bl.chain ?_ (by assumption) (Nat.le_refl _)))⟩
        · have hi4 : (248 : Int) ≤ (bnk a : Int) := by omega
          have hi5 : (decide ((bnk a : Int) ≤ 251)) = false := by rw [decide_eq_false_iff_not]; omega
          have hW := hide (whr_no a (by omega) (by omega) h3)
          clear h4 h2
          go_enter Try.func24, Try.ntmps24
          (go_wp2_with fail; refine Cl.p (r03Bank_calls a _ ha) ?_)
          (go_wp2_with fail; refine Cl.p (hoff _ ha) ?_)
          go_wp2_with fail
          go_ret
          exact ⟨ret_int (by rw [hW.out]; rfl), by (repeat (first | exact Below.refl _ _ | assumption | refine Below.drew ?_ | refine Bl.alloc ?_ _ | refine below_drewN ?_ _ | refine Bl.chain ?_ (by assumption) (Nat.le_refl _)))⟩
theorem whO_le (o : Nat) : whO o ≤ 8 := by unfold whO; repeat (first | omega | split)
theorem whr_le (a : Nat) : whr a ≤ 8 := by unfold whr whB; repeat (first | omega | exact whO_le _ | split)
def exO (v : Nat) : Bool := v == 3 || v == 4
end Go.Proofs.Ytjaibacpojpfhaa
