/-
  Package state: names, of, most, values.state.
-/
import Derived.Test.YtelmkpcocaogjaaDoorBsta
import Derived.Test.YtelmkpcocaogjaaDoorOct
import Derived.Test.YtelmkpcocaogjaaDoorRet
import Derived.Test.YtelmkpcocaogjaaDoorOnly
import Derived.Deep.RegionHeld3
import Derived.Deep.DeepCutAuto
namespace Go.Proofs.YtelmkpcocaogjaaDoor
open Go.RowKit Pl

def nmA : Array Value := arr 16 fun i => .string (nmB i)
theorem stNames_calls (w : World) :
    Calls Tryd.prog 38 #[] w fun e w' => e = .returned (.agg nmA) ∧ Below w.heap.size w w' := by
  go_enter Tryd.func38, Tryd.ntmps38
  go_wp2_with fail
  exact bodyPost_ret (results_cell_row rfl _ _ w.heap.size 61 nmA (0, 0) _ rfl (heap_alloc_new w _) Tryd.underlying61 rfl (by kernel_rfl)) rfl ⟨rfl, (Below.refl _ _).alloc (Nat.le_refl _) _⟩

theorem stMost_calls (i : Nat) (w : World) (hi : i < 16) :
    Calls Tryd.prog 41 #[.int .i64 (i : Int)] w fun e w' => e = .returned (.int .u16 (most i : Nat)) ∧ w = w' := by
  by_cases h5 : i = 5
  · subst h5
    go_enter Tryd.func41, Tryd.ntmps41
    go_wp2_with fail
    go_ret
    exact ⟨rfl, rfl⟩
  · by_cases h15 : i = 15
    · subst h15
      go_enter Tryd.func41, Tryd.ntmps41
      go_wp2_with fail
      go_ret
      exact ⟨rfl, rfl⟩
    · have i1 : ((i : Int) == 5) = false := by rw [beq_eq_false_iff_ne]; omega
      have i2 : ((i : Int) == 15) = false := by rw [beq_eq_false_iff_ne]; omega
      have hm : most i = 255 := by unfold most; rw [if_neg h5, if_neg h15]
      have HM := hide hm
      clear h5 h15 hm
      go_enter Tryd.func41, Tryd.ntmps41
      go_wp2_with fail
      go_ret
      exact ⟨by rw [HM.out]; rfl, rfl⟩

/-- A state's cells. -/
def stA (R : Nat → Nat) : Array Value := #[.int .u8 (R 0 : Int), .int .u8 (R 1 : Int), .int .u8 (R 2 : Int), .int .u8 (R 3 : Int), .int .u8 (R 4 : Int), .int .u16 (R 5 : Int), .int .u8 (R 6 : Int), .int .u8 (R 7 : Int), .int .u8 (R 8 : Int), .int .u8 (R 9 : Int), .int .u8 (R 10 : Int), .int .u8 (R 11 : Int), .int .u8 (R 12 : Int), .int .u8 (R 13 : Int), .int .u8 (R 14 : Int), .bool (R 15 == 1)]
theorem stA_congr {R R' : Nat → Nat} (h : ∀ i, i < 16 → R i = R' i) : stA R = stA R' := by
  unfold stA
  rw [h 0 (by omega), h 1 (by omega), h 2 (by omega), h 3 (by omega), h 4 (by omega), h 5 (by omega), h 6 (by omega), h 7 (by omega), h 8 (by omega), h 9 (by omega), h 10 (by omega), h 11 (by omega), h 12 (by omega), h 13 (by omega), h 14 (by omega), h 15 (by omega)]
/-- All registers' values, the banks so far. -/
def lkC (R : Nat → Nat) (k i : Nat) : Value := .int .u16 ((if i < 6 + k then R i else 0 : Nat) : Int)
def vaA (R : Nat → Nat) : Array Value := arr 16 fun i => .int .u16 (R i : Int)
theorem lkC_step (R : Nat → Nat) (k : Nat) : ∀ i, i < 16 → updv (lkC R k) (6 + k) (.int .u16 (R (6 + k) : Int)) i = lkC R (k + 1) i := fun i _ => by
  unfold updv lkC
  by_cases e : i = 6 + k
  · subst e; rw [if_pos rfl, if_pos (by omega)]
  · rw [if_neg e]
    by_cases h : i < 6 + k
    · rw [if_pos h, if_pos (by omega)]
    · rw [if_neg h, if_neg (by omega)]
theorem lkC_all (R : Nat → Nat) : arr 16 (lkC R 10) = vaA R := arr_congr fun i hi => by unfold lkC; rw [if_pos (by omega)]
end Go.Proofs.YtelmkpcocaogjaaDoor
