/-
  Package port: low, high, Read; gannetref10: Write, Read.
-/
import Derived.Test.YtemfdkoipeedeaaPort
namespace Go.Proofs.Ytemfdkoipeedeaa
set_option linter.unusedSimpArgs false
set_option linter.unusedVariables false
set_option maxRecDepth 10000
open Go.RowKit

theorem ptLow_calls (g gf s d : Nat) (o : Option Addr) (n c T q : Nat) (L : Nat → Int) (w : World) (hT : T < 4611686018427387903) (hn : n ≤ 140737488355328) (hq : nxV L n T = (q : Int)) (hq2 : q < 256)
    (hP : PB w g gf s d) (hF : FB w gf o n c T) (hL : NumsB w .u8 o n L gf) :
    Calls Try.prog 77 #[.pointer (some ⟨g, 0, none⟩)] w fun e w' => e = .returned (.int .u8 ((q % 16 : Nat) : Int)) ∧ FB w' gf o n c (T + 1) ∧ Only (fun k => k = gf) w w' := by
  have hc : w.cell? ⟨g, 0, none⟩ = some (.pointer (some ⟨gf, 0, none⟩)) := hP.cell 0
  have ha := and15_all q hq2
  have Hq := hide hq
  clear hq
  go_enter Try.func77, Try.ntmps77
  go_wp2_with fail
  refine (fdNext_calls gf o n c T L _ hT hn hF hL).mono ?_
  rintro e w1 ⟨rfl, hF1, ho1⟩
  rw [Hq.out]
  go_wp2_with fail
  go_ret
  exact ⟨ret_int (by omega), hF1, ho1⟩
theorem ptHigh_calls (g gf s d : Nat) (o : Option Addr) (n c T q : Nat) (L : Nat → Int) (w : World) (hT : T < 4611686018427387903) (hn : n ≤ 140737488355328) (hq : nxV L n T = (q : Int)) (hq2 : q < 256)
    (hP : PB w g gf s d) (hF : FB w gf o n c T) (hL : NumsB w .u8 o n L gf) :
    Calls Try.prog 78 #[.pointer (some ⟨g, 0, none⟩)] w fun e w' => e = .returned (.int .u8 ((q / 16 : Nat) : Int)) ∧ FB w' gf o n c (T + 1) ∧ Only (fun k => k = gf) w w' := by
  have hc : w.cell? ⟨g, 0, none⟩ = some (.pointer (some ⟨gf, 0, none⟩)) := hP.cell 0
  have Hq := hide hq
  clear hq
  go_enter Try.func78, Try.ntmps78
  go_wp2_with fail
  refine (fdNext_calls gf o n c T L _ hT hn hF hL).mono ?_
  rintro e w1 ⟨rfl, hF1, ho1⟩
  rw [Hq.out]
  go_wp2_with fail
  go_ret
  exact ⟨ret_int (by omega), hF1, ho1⟩
/-- What is read, and how many bytes were asked for behind it. -/
def rdV (s d q : Nat) : Nat := if 2 ≤ s ∨ 5 ≤ d then 176 else if s % 2 = 1 then 176 + q / 16 else 176 + q % 16
def rdT (s d T : Nat) : Nat := if 2 ≤ s ∨ 5 ≤ d then T else T + 1
theorem ptRead_calls (g gf s d : Nat) (o : Option Addr) (n c T q : Nat) (L : Nat → Int) (w : World) (hT : T < 4611686018427387903) (hn : n ≤ 140737488355328) (hq : nxV L n T = (q : Int)) (hq2 : q < 256) (hs : s < 4) (hne : g ≠ gf)
    (hP : PB w g gf s d) (hF : FB w gf o n c T) (hL : NumsB w .u8 o n L gf) :
    Calls Try.prog 67 #[.pointer (some ⟨g, 0, none⟩)] w fun e w' => e = .returned (.int .u8 (rdV s d q : Nat)) ∧ FB w' gf o n c (rdT s d T) ∧ PB w' g gf s d ∧ Only (fun k => k = gf) w w' := by
  have hc1 : w.cell? ⟨g, 1, none⟩ = some (.int .u8 (s : Int)) := hP.cell 1
  have hc2 : w.cell? ⟨g, 2, none⟩ = some (.int .i64 (d : Int)) := hP.cell 2
  have a2 := and2_all s (by omega)
  have a1 := and1_all s (by omega)
  by_cases h2 : 2 ≤ s
  · have e : rdV s d q = 176 := if_pos (Or.inl h2)
    have e2 : rdT s d T = T := if_pos (Or.inl h2)
    rw [show s / 2 % 2 * 2 = 2 from by omega] at a2
    have E := hide e
    have E2 := hide e2
    clear e e2
    go_enter Try.func67, Try.ntmps67
    go_wp2_with fail
    go_ret
    exact ⟨ret_int (by rw [E.out]; rfl), by rw [E2.out]; exact hF, hP, Only.refl _ _⟩
  · rw [show s / 2 % 2 * 2 = 0 from by omega] at a2
    by_cases h5 : 5 ≤ d
    · have i5 : (5 : Int) ≤ (d : Int) := by omega
      have e : rdV s d q = 176 := if_pos (Or.inr h5)
      have e2 : rdT s d T = T := if_pos (Or.inr h5)
      have E := hide e
      have E2 := hide e2
      clear e e2
      go_enter Try.func67, Try.ntmps67
      go_wp2_with fail
      go_ret
      exact ⟨ret_int (by rw [E.out]; rfl), by rw [E2.out]; exact hF, hP, Only.refl _ _⟩
    · have i5 : (decide ((5 : Int) ≤ (d : Int))) = false := by rw [decide_eq_false_iff_not]; omega
      have e2 : rdT s d T = T + 1 := if_neg (by omega)
      have E2 := hide e2
      have hs1 : s = 0 ∨ s = 1 := by omega
      rcases hs1 with rfl | rfl
      · have e : rdV 0 d q = 176 + q % 16 := by unfold rdV; rw [if_neg (by omega), if_neg (by omega)]
        have E := hide e
        have hor := or176_all (q % 16) (by omega)
        clear e e2 h5
        go_enter Try.func67, Try.ntmps67
        go_wp2_with fail
        refine (ptLow_calls g gf 0 d o n c T q L _ hT hn hq hq2 hP hF hL).mono ?_
        rintro e w1 ⟨rfl, hF1, ho1⟩
        go_wp2_with fail
        go_ret
        exact ⟨ret_int (by rw [E.out]; first | exact hor | omega), by rw [E2.out]; exact hF1, hP.only ho1 hne, ho1⟩
      · have e : rdV 1 d q = 176 + q / 16 := by unfold rdV; rw [if_neg (by omega), if_pos (by omega)]
        have E := hide e
        have hor := or176_all (q / 16) (by omega)
        clear e e2 h5
        go_enter Try.func67, Try.ntmps67
        go_wp2_with fail
        refine (ptHigh_calls g gf 1 d o n c T q L _ hT hn hq hq2 hP hF hL).mono ?_
        rintro e w1 ⟨rfl, hF1, ho1⟩
        go_wp2_with fail
        go_ret
        exact ⟨ret_int (by rw [E.out]; first | exact hor | omega), by rw [E2.out]; exact hF1, hP.only ho1 hne, ho1⟩

end Go.Proofs.Ytemfdkoipeedeaa
