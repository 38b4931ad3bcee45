/-
  gannetref10: Write, New, Copy; port: New, Clone; nil receivers.
-/
import Derived.Test.YtndochgmhnpdfaaPort2
import Derived.Deep.RegionHeld3
namespace Go.Proofs.Ytndochgmhnpdfaa
open Go.RowKit

set_option maxHeartbeats 4000000 in
theorem qWrite_calls (h : Nat) (o : Option Addr) (n c T s d b : Nat) (w : World) (hb : b < 256) (hs : s < 4) (hd : d ≤ 5) (hQ : QB w h o n c T s d) :
    Calls Try.prog 17 #[.pointer (some ⟨h, 0, none⟩), .int .u8 (b : Int)] w fun e w' => (∃ v, e = .returned v) ∧ QB w' h o n c T (b % 4) (ptD s d b) ∧ Only (fun k => k = h) w w' := by
  have hc1 : w.cell? ⟨h, 2, none⟩ = some (.int .u8 (s : Int)) := hQ.cell 2
  have hc2 : w.cell? ⟨h, 3, none⟩ = some (.int .i64 (d : Int)) := hQ.cell 3
  have hf1 := hQ.frozen 2
  have hf2 := hQ.frozen 3
  have f1 : ∀ X : Int, X = ((b % 4 : Nat) : Int) → QB (w.setCell ⟨h, 2, none⟩ (.int .u8 X)) h o n c T (b % 4) d := by
    rintro X rfl
    exact hQ.set_ 2 _
  have f2 : ∀ (X Y : Int) (d' : Nat), X = ((b % 4 : Nat) : Int) → Y = (d' : Int) → QB ((w.setCell ⟨h, 2, none⟩ (.int .u8 X)).setCell ⟨h, 3, none⟩ (.int .i64 Y)) h o n c T (b % 4) d' := by
    rintro X Y d' rfl rfl
    exact (hQ.set_ 2 _).set_ 3 _
  have o1 : ∀ X : Value, Only (fun k => k = h) w (w.setCell ⟨h, 2, none⟩ X) := fun X => Only.setCell (S := fun k => k = h) (Only.refl _ _) ⟨h, 2, none⟩ rfl _
  have o2 : ∀ X Y : Value, Only (fun k => k = h) w ((w.setCell ⟨h, 2, none⟩ X).setCell ⟨h, 3, none⟩ Y) := fun X Y => Only.setCell (S := fun k => k = h) (o1 X) ⟨h, 3, none⟩ rfl _
  have F1 := hide f1
  have F2 := hide f2
  have O1 := hide o1
  have O2 := hide o2
  clear f1 f2 o1 o2
  have hr : b % 4 = 0 ∨ b % 4 = 1 ∨ b % 4 = 2 ∨ b % 4 = 3 := by omega
  rcases hr with hr | hr | hr | hr
  · have hri : (b : Int) % 4 = 0 := by omega
    have e : ptD s d b = d := by unfold ptD; rw [if_neg (by omega), if_neg (by omega)]
    have E := hide e
    have Hr := hide hr
    clear e hr
    go_enter Try.func17, Try.ntmps17
    go_wp2_with fail
    go_end0
    rw [E.out]
    exact ⟨⟨_, rfl⟩, F1.out _ (by have := Hr.out; omega), O1.out _⟩
  · have hri : (b : Int) % 4 = 1 := by omega
    by_cases hs1 : s % 2 = 0
    · have hsi : (s : Int) % 2 = 0 := by omega
      by_cases h5 : d < 5
      · have i5 : (d : Int) < 5 := by omega
        have e : ptD s d b = d + 1 := by unfold ptD; rw [if_neg (by omega), if_pos (by omega), if_pos h5]
        have E := hide e
        have Hr := hide hr
        clear e hr
        go_enter Try.func17, Try.ntmps17
        go_wp2_with fail
        go_end0
        rw [E.out]
        exact ⟨⟨_, rfl⟩, F2.out _ _ _ (by have := Hr.out; omega) (by omega), O2.out _ _⟩
      · have i5 : (decide ((d : Int) < 5)) = false := by rw [decide_eq_false_iff_not]; omega
        have e : ptD s d b = d := by unfold ptD; rw [if_neg (by omega), if_pos (by omega), if_neg h5]; omega
        have E := hide e
        have Hr := hide hr
        clear e hr h5
        go_enter Try.func17, Try.ntmps17
        go_wp2_with fail
        go_end0
        rw [E.out]
        exact ⟨⟨_, rfl⟩, F1.out _ (by have := Hr.out; omega), O1.out _⟩
    · have hsi : (s : Int) % 2 = 1 := by omega
      have e : ptD s d b = d := by unfold ptD; rw [if_neg (by omega), if_neg (by omega)]
      have E := hide e
      have Hr := hide hr
      clear e hr hs1
      go_enter Try.func17, Try.ntmps17
      go_wp2_with fail
      go_end0
      rw [E.out]
      exact ⟨⟨_, rfl⟩, F1.out _ (by have := Hr.out; omega), O1.out _⟩
  · have hri : (b : Int) % 4 = 2 := by omega
    have e : ptD s d b = 0 := by unfold ptD; rw [if_pos (by omega)]
    have E := hide e
    have Hr := hide hr
    clear e hr
    go_enter Try.func17, Try.ntmps17
    go_wp2_with fail
    go_end0
    rw [E.out]
    exact ⟨⟨_, rfl⟩, F2.out _ _ _ (by have := Hr.out; omega) (by omega), O2.out _ _⟩
  · have hri : (b : Int) % 4 = 3 := by omega
    have e : ptD s d b = 0 := by unfold ptD; rw [if_pos (by omega)]
    have E := hide e
    have Hr := hide hr
    clear e hr
    go_enter Try.func17, Try.ntmps17
    go_wp2_with fail
    go_end0
    rw [E.out]
    exact ⟨⟨_, rfl⟩, F2.out _ _ _ (by have := Hr.out; omega) (by omega), O2.out _ _⟩

theorem ptNew_calls (o : Option Addr) (n c : Nat) (L : Nat → Int) (w : World) (hn : n ≤ 140737488355328) (hL : NumsAt w .u8 o n L) :
    Calls Try.prog 6 #[.slice o n c] w fun e w' => ∃ g gf o' c', e = .returned (.pointer (some ⟨g, 0, none⟩)) ∧ PB w' g gf 0 0 ∧ FB w' gf o' n c' 0 ∧ NumsB w' .u8 o' n L gf ∧ w.heap.size ≤ gf ∧ gf < g ∧ Below w.heap.size w w' := by
  go_enter Try.func6, Try.ntmps6
  go_wp2_with fail
  refine (fdNew_calls o n c L _ hn hL).mono ?_
  rintro e w1 ⟨gf, o', c', rfl, hF1, hN1, hg, hb1⟩
  go_wp2_with fail
  go_ret
  refine ⟨w1.heap.size, gf, o', c', rfl, Blk.new _ _ _, hF1.alloc _, ?_, hg, hF1.lt, by (repeat (first | exact Below.refl _ _ | assumption | refine Below.drew ?_ | refine Bl.alloc ?_ _ | refine below_drewN ?_ _ | refine Bl.chain ?_ (by assumption) (Nat.le_refl _)))⟩
  exact hN1.only ((Only.refl (fun _ => False) w1).alloc _) (fun _ _ h => h)
theorem qNew_calls (o : Option Addr) (n c : Nat) (w : World) :
    Calls Try.prog 7 #[.slice o n c] w fun e w' => ∃ h, e = .returned (.pointer (some ⟨h, 0, none⟩)) ∧ QB w' h o n c 0 0 0 ∧ w.heap.size ≤ h ∧ Below w.heap.size w w' := by
  go_enter Try.func7, Try.ntmps7
  go_wp2_with fail
  go_ret
  exact ⟨w.heap.size, rfl, Blk.new _ _ _, Nat.le_refl _, by (repeat (first | exact Below.refl _ _ | assumption | refine Below.drew ?_ | refine Bl.alloc ?_ _ | refine below_drewN ?_ _ | refine Bl.chain ?_ (by assumption) (Nat.le_refl _)))⟩
theorem ptClone_calls (g gf s d : Nat) (o : Option Addr) (n c T : Nat) (L : Nat → Int) (w : World) (hn : n ≤ 140737488355328) (hP : PB w g gf s d) (hF : FB w gf o n c T) (hL : NumsB w .u8 o n L gf) :
    Calls Try.prog 9 #[.pointer (some ⟨g, 0, none⟩)] w fun e w' => ∃ g' gf' o' c', e = .returned (.pointer (some ⟨g', 0, none⟩)) ∧ PB w' g' gf' s d ∧ FB w' gf' o' n c' T ∧ NumsB w' .u8 o' n L gf' ∧ w.heap.size ≤ gf' ∧ gf' < g' ∧ Below w.heap.size w w' := by
  have hg := hP.lt
  have hc0 : w.drew.cell? ⟨g, 0, none⟩ = some (.pointer (some ⟨gf, 0, none⟩)) := hP.cell 0
  have hc1 : w.drew.cell? ⟨g, 1, none⟩ = some (.int .u8 (s : Int)) := hP.cell 1
  have hc2 : w.drew.cell? ⟨g, 2, none⟩ = some (.int .i64 (d : Int)) := hP.cell 2
  go_enter Try.func9, Try.ntmps9
  go_wp2_with fail
  go_region_held3 (fun w' => w'.cell? ⟨g, 0, none⟩ = some (.pointer (some ⟨gf, 0, none⟩)) ∧ w'.cell? ⟨g, 1, none⟩ = some (.int .u8 (s : Int)) ∧ w'.cell? ⟨g, 2, none⟩ = some (.int .i64 (d : Int))) (first | exact ⟨hc0, hc1, hc2⟩ | exact ⟨hd0, hd1, hd2⟩ | go_keep)
    (first | (go_at_call 19; refine (fdClone_calls gf o n c T L w.drew hn hF.drew (hL.only (Only.drew (Only.refl (fun _ => False) w)) (fun _ _ e => e))).mono ?_; rintro e w1 ⟨gf', o', c', rfl, hF1, hN1, hgf, hb1⟩; have hP1 := hP.drew.below hb1 hg; have hd0 : w1.cell? ⟨g, 0, none⟩ = some (.pointer (some ⟨gf, 0, none⟩)) := hP1.cell 0; have hd1 : w1.cell? ⟨g, 1, none⟩ = some (.int .u8 (s : Int)) := hP1.cell 1; have hd2 : w1.cell? ⟨g, 2, none⟩ = some (.int .i64 (d : Int)) := hP1.cell 2))
  all_goals
    go_wp2_with fail
    go_ret
    have hb2 : Below w.heap.size w w1 := (Below.drew (Below.refl w.heap.size w)).trans hb1
    refine ⟨w1.heap.size, gf', o', c', rfl, Blk.new _ _ _, hF1.alloc _, ?_, hgf, hF1.lt, by (repeat (first | exact Below.refl _ _ | assumption | refine Below.drew ?_ | refine Bl.alloc ?_ _ | refine below_drewN ?_ _ | refine Bl.chain ?_ (by assumption) (Nat.le_refl _)))⟩
    exact hN1.only ((Only.refl (fun _ => False) w1).alloc _) (fun _ _ h => h)
theorem qCopy_calls (h : Nat) (o : Option Addr) (n c T s d : Nat) (w : World) (hQ : QB w h o n c T s d) :
    Calls Try.prog 10 #[.pointer (some ⟨h, 0, none⟩)] w fun e w' => ∃ h', e = .returned (.pointer (some ⟨h', 0, none⟩)) ∧ QB w' h' o n c T s d ∧ w.heap.size ≤ h' ∧ Below w.heap.size w w' := by
  have hc0 : w.drew.cell? ⟨h, 0, none⟩ = some (.slice o n c) := hQ.cell 0
  have hc1 : w.drew.cell? ⟨h, 1, none⟩ = some (.int .i64 (T : Int)) := hQ.cell 1
  have hc2 : w.drew.cell? ⟨h, 2, none⟩ = some (.int .u8 (s : Int)) := hQ.cell 2
  have hc3 : w.drew.cell? ⟨h, 3, none⟩ = some (.int .i64 (d : Int)) := hQ.cell 3
  go_enter Try.func10, Try.ntmps10
  go_wp2_with fail
  go_region_held3 (fun w' => w'.cell? ⟨h, 0, none⟩ = some (.slice o n c) ∧ w'.cell? ⟨h, 1, none⟩ = some (.int .i64 (T : Int)) ∧ w'.cell? ⟨h, 2, none⟩ = some (.int .u8 (s : Int)) ∧ w'.cell? ⟨h, 3, none⟩ = some (.int .i64 (d : Int))) (first | exact ⟨hc0, hc1, hc2, hc3⟩ | exact ⟨(hQ.alloc _).cell 0, (hQ.alloc _).cell 1, (hQ.alloc _).cell 2, (hQ.alloc _).cell 3⟩ | exact ⟨(hQ.drew.alloc _).cell 0, (hQ.drew.alloc _).cell 1, (hQ.drew.alloc _).cell 2, (hQ.drew.alloc _).cell 3⟩ | go_keep) (first | fail)
  all_goals
    go_wp2_with fail
    go_ret
    exact ⟨w.heap.size, rfl, Blk.drew (Blk.new _ _ _), Nat.le_refl _, by (repeat (first | exact Below.refl _ _ | assumption | refine Below.drew ?_ | refine Bl.alloc ?_ _ | refine below_drewN ?_ _ | refine Bl.chain ?_ (by assumption) (Nat.le_refl _)))⟩

theorem nilWrite_calls (b : Int) (w : World) : Calls Try.prog 13 #[.pointer none, .int .u8 b] w fun e w' => (∃ v, e = .returned v) ∧ w = w' := by
  go_enter Try.func13, Try.ntmps13
  go_wp2_with fail
  first
    | (go_end0; exact ⟨⟨_, rfl⟩, rfl⟩)
    | (refine bodyPost_ret (results_none rfl _ _ _) rfl ?_; exact ⟨⟨_, rfl⟩, rfl⟩)
theorem nilRead_calls (w : World) : Calls Try.prog 14 #[.pointer none] w fun e w' => e = .returned (.int .u8 176) ∧ w = w' := by
  go_enter Try.func14, Try.ntmps14
  go_wp2_with fail
  go_ret
  exact ⟨rfl, rfl⟩
theorem nilPad_calls (w : World) : Calls Try.prog 11 #[.pointer none] w fun e w' => e = .returned (.int .i64 0) ∧ w = w' := by
  go_enter Try.func11, Try.ntmps11
  go_wp2_with fail
  go_ret
  exact ⟨rfl, rfl⟩
theorem nilClone_calls (w : World) : Calls Try.prog 9 #[.pointer none] w fun e w' => e = .returned (.pointer none) ∧ w = w' := by
  go_enter Try.func9, Try.ntmps9
  go_wp2_with fail
  go_ret
  exact ⟨rfl, rfl⟩
theorem nilTaken_calls (w : World) : Calls Try.prog 12 #[.pointer none] w fun e w' => e = .returned (.int .i64 0) ∧ w = w' := by
  go_enter Try.func12, Try.ntmps12
  go_wp2_with fail
  go_ret
  exact ⟨rfl, rfl⟩
end Go.Proofs.Ytndochgmhnpdfaa
