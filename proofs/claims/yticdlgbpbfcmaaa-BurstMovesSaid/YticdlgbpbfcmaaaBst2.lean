/-
  Package burst.
-/
import Derived.Test.YticdlgbpbfcmaaaBst
import Derived.Deep.RegionHeld3
namespace Go.Proofs.Yticdlgbpbfcmaaa
open Go.RowKit

/-- A block on its way. -/
def BB (w : World) (g k f t N n ph dt : Nat) : Prop := Blk w g 52 #[.int .u8 (k : Int), .int .u16 (f : Int), .int .u16 (t : Int), .int .i64 (N : Int), .int .i64 (n : Int), .int .i64 (ph : Int), .int .u8 (dt : Int)]
def accV (ph : Nat) : Nat := [2, 3, 2, 2, 4, 2].getD ph 0
def adV (k f t n ph : Nat) : Nat := if ph = 1 then wyF k f n else if ph = 4 then wyT k t n else 0
def accA : Array Value := #[.int .u8 2, .int .u8 3, .int .u8 2, .int .u8 2, .int .u8 4, .int .u8 2]
theorem bsAcc_calls (w : World) : Calls Try.prog 24 #[] w fun e w' => e = .returned (.agg accA) ∧ Below w.heap.size w w' := by
  go_enter Try.func24, Try.ntmps24
  go_wp2
  refine bodyPost_ret (results_cell_row rfl _ _ w.heap.size 53 accA (0, 0) _ rfl (heap_alloc_new w _) Try.underlying53 rfl (by kernel_rfl)) rfl ⟨rfl, ?_⟩
  exact (Below.refl _ _).alloc (Nat.le_refl _) _
theorem bsLeft_calls (g k f t N n ph dt : Nat) (w : World) (hN : N ≤ 65536) (hn : n ≤ N) (hB : BB w g k f t N n ph dt) :
    Calls Try.prog 17 #[.pointer (some ⟨g, 0, none⟩)] w fun e w' => e = .returned (.int .i64 ((N - n : Nat) : Int)) ∧ Below w.heap.size w w' := by
  have hc3 : w.cell? ⟨g, 3, none⟩ = some (.int .i64 (N : Int)) := hB.cell 3
  have hc4 : w.cell? ⟨g, 4, none⟩ = some (.int .i64 (n : Int)) := hB.cell 4
  go_enter Try.func17, Try.ntmps17
  go_wp2_with fail
  go_quiet (fail)
  go_wp2_with fail
  go_ret
  exact ⟨ret_int (by omega), by (repeat (first | exact Below.refl _ _ | assumption | refine Below.drew ?_ | refine Bl.alloc ?_ _ | refine below_drewN ?_ _ | refine Bl.chain ?_ (by assumption) (Nat.le_refl _)))⟩
theorem bsDone_calls (g k f t N n ph dt : Nat) (w : World) (hN : N ≤ 65536) (hn : n ≤ N) (hB : BB w g k f t N n ph dt) :
    Calls Try.prog 11 #[.pointer (some ⟨g, 0, none⟩)] w fun e w' => e = .returned (.bool (decide (n = N))) ∧ Below w.heap.size w w' := by
  by_cases h : n = N
  · subst h
    rw [decide_eq_true rfl]
    go_enter Try.func11, Try.ntmps11
    (go_wp2_with fail; refine Cl.m (bsLeft_calls g k f t n n ph dt _ hN (Nat.le_refl _) hB) ?_; intro w1 hb1)
    rw [Nat.sub_self]
    go_wp2_with fail
    go_ret
    exact ⟨rfl, by (repeat (first | exact Below.refl _ _ | assumption | refine Below.drew ?_ | refine Bl.alloc ?_ _ | refine below_drewN ?_ _ | refine Bl.chain ?_ (by assumption) (Nat.le_refl _)))⟩
  · rw [decide_eq_false h]
    have h' : (((N - n : Nat) : Int) == 0) = false := by rw [beq_eq_false_iff_ne]; omega
    clear h
    go_enter Try.func11, Try.ntmps11
    (go_wp2_with fail; refine Cl.m (bsLeft_calls g k f t N n ph dt _ hN hn hB) ?_; intro w1 hb1)
    go_wp2_with fail
    go_ret
    first | exact ⟨rfl, by (repeat (first | exact Below.refl _ _ | assumption | refine Below.drew ?_ | refine Bl.alloc ?_ _ | refine below_drewN ?_ _ | refine Bl.chain ?_ (by assumption) (Nat.le_refl _)))⟩ | exact ⟨ret_bool h', by (repeat (first | exact Below.refl _ _ | assumption | refine Below.drew ?_ | refine Bl.alloc ?_ _ | refine below_drewN ?_ _ | refine Bl.chain ?_ (by assumption) (Nat.le_refl _)))⟩
theorem bsData_calls (g k f t N n ph dt : Nat) (w : World) (hB : BB w g k f t N n ph dt) :
    Calls Try.prog 13 #[.pointer (some ⟨g, 0, none⟩)] w fun e w' => e = .returned (.int .u8 (dt : Int)) ∧ w = w' := by
  have hc : w.cell? ⟨g, 6, none⟩ = some (.int .u8 (dt : Int)) := hB.cell 6
  go_enter Try.func13, Try.ntmps13
  go_wp2_with fail
  go_ret
  exact ⟨rfl, rfl⟩
theorem bsPhase_calls (g k f t N n ph dt : Nat) (w : World) (hB : BB w g k f t N n ph dt) :
    Calls Try.prog 18 #[.pointer (some ⟨g, 0, none⟩)] w fun e w' => e = .returned (.int .i64 (ph : Int)) ∧ w = w' := by
  have hc : w.cell? ⟨g, 5, none⟩ = some (.int .i64 (ph : Int)) := hB.cell 5
  go_enter Try.func18, Try.ntmps18
  go_wp2_with fail
  go_ret
  exact ⟨rfl, rfl⟩
theorem bsNew_calls (k f t l : Nat) (w : World) (hk : k < 5) (hf : f < 65536) (ht : t < 65536) (hl : l < 65536) :
    Calls Try.prog 6 #[.int .u8 (k : Int), .int .u16 (f : Int), .int .u16 (t : Int), .int .u16 (l : Int)] w fun e w' => ∃ g, e = .returned (.tuple #[.pointer (some ⟨g, 0, none⟩), .int .i64 0]) ∧ BB w' g k f t (cnt l) 0 0 0 ∧ w.heap.size ≤ g ∧ Below w.heap.size w w' := by
  go_enter Try.func6, Try.ntmps6
  go_wp2_with fail
  refine Cl.m (mvAt_calls k f t 0 _ hk hf ht (by omega)) ?_
  intro w1 hb1
  have hs1 := hb1.size
  go_wp2_with fail
  refine Cl.p (mvCount_calls l _ hl) ?_
  go_wp2_with fail
  go_ret2
  exact ⟨w1.heap.size + 1, rfl, Blk.newAt (by simp), by omega, by (repeat (first | exact Below.refl _ _ | assumption | refine Below.drew ?_ | refine Bl.alloc ?_ _ | refine below_drewN ?_ _ | refine Bl.chain ?_ (by assumption) (Nat.le_refl _)))⟩
theorem bsNewNo_calls (w : World) :
    Calls Try.prog 6 #[.int .u8 9, .int .u16 0, .int .u16 0, .int .u16 0] w fun e w' => e = .returned (.tuple #[.pointer none, .int .i64 12]) ∧ Below w.heap.size w w' := by
  go_enter Try.func6, Try.ntmps6
  go_wp2_with fail
  refine Cl.m (mvAtNo_calls 0 0 _) ?_
  intro w1 hb1
  go_wp2_with fail
  go_ret2
  exact ⟨rfl, by (repeat (first | exact Below.refl _ _ | assumption | refine Below.drew ?_ | refine Bl.alloc ?_ _ | refine below_drewN ?_ _ | refine Bl.chain ?_ (by assumption) (Nat.le_refl _)))⟩
theorem bsCycles_calls (w : World) : Calls Try.prog 15 #[.int .u16 0] w fun e w' => e = .returned (.int .i64 393216) ∧ w = w' := by
  go_enter Try.func15, Try.ntmps15
  (go_wp2_with fail; refine Cl.p (mvCount_calls 0 _ (by omega)) ?_)
  rw [show cnt 0 = 65536 from rfl]
  go_wp2_with fail
  go_ret
  exact ⟨rfl, rfl⟩

theorem bsClone_calls (g k f t N n ph dt : Nat) (w : World) (hB : BB w g k f t N n ph dt) :
    Calls Try.prog 10 #[.pointer (some ⟨g, 0, none⟩)] w fun e w' => ∃ g', e = .returned (.pointer (some ⟨g', 0, none⟩)) ∧ BB w' g' k f t N n ph dt ∧ w.heap.size ≤ g' ∧ Below w.heap.size w w' := by
  have hg := hB.lt
  have c0 : w.cell? ⟨g, 0, none⟩ = some (.int .u8 (k : Int)) := hB.cell 0
  have c1 : w.cell? ⟨g, 1, none⟩ = some (.int .u16 (f : Int)) := hB.cell 1
  have c2 : w.cell? ⟨g, 2, none⟩ = some (.int .u16 (t : Int)) := hB.cell 2
  have c3 : w.cell? ⟨g, 3, none⟩ = some (.int .i64 (N : Int)) := hB.cell 3
  have c4 : w.cell? ⟨g, 4, none⟩ = some (.int .i64 (n : Int)) := hB.cell 4
  have c5 : w.cell? ⟨g, 5, none⟩ = some (.int .i64 (ph : Int)) := hB.cell 5
  have c6 : w.cell? ⟨g, 6, none⟩ = some (.int .u8 (dt : Int)) := hB.cell 6
  go_enter Try.func10, Try.ntmps10
  go_wp2_with fail
  go_ret
  exact ⟨w.heap.size, rfl, Blk.newAt rfl, Nat.le_refl _, by (repeat (first | exact Below.refl _ _ | assumption | refine Below.drew ?_ | refine Bl.alloc ?_ _ | refine below_drewN ?_ _ | refine Bl.chain ?_ (by assumption) (Nat.le_refl _)))⟩
/-- A cycle further. -/
def stD (ph v dt : Nat) : Nat := if ph = 1 then v else dt
set_option maxHeartbeats 4000000 in
theorem bsStep_calls (g k f t N n ph dt v : Nat) (w : World) (hN : N ≤ 65536) (hn : n < N) (hph : ph < 6) (hB : BB w g k f t N n ph dt) :
    Calls Try.prog 8 #[.pointer (some ⟨g, 0, none⟩), .int .u8 (v : Int)] w fun e w' => (∃ v, e = .returned v) ∧ BB w' g k f t N (if ph = 5 then n + 1 else n) (if ph = 5 then 0 else ph + 1) (stD ph v dt) ∧ Only (fun j => j = g) w w' := by
  have hg := hB.lt
  have hd : decide (n = N) = false := by rw [decide_eq_false_iff_not]; omega
  have hD := bsDone_calls g k f t N n ph dt w hN (by omega) hB
  rw [hd] at hD
  have hp : ph = 0 ∨ ph = 1 ∨ ph = 2 ∨ ph = 3 ∨ ph = 4 ∨ ph = 5 := by omega
  have nT : n < 65536 := by omega
  rcases hp with rfl | rfl | rfl | rfl | rfl | rfl
  all_goals
    go_enter Try.func8, Try.ntmps8
    go_wp2_with fail
    refine Cl.m hD ?_
    intro w1 hb1
    have hB1 := hB.below hb1 hg
    have c4 : w1.cell? ⟨g, 4, none⟩ = some (.int .i64 (n : Int)) := hB1.cell 4
    have c5 : w1.cell? ⟨g, 5, none⟩ = some _ := hB1.cell 5
    have c6 : w1.cell? ⟨g, 6, none⟩ = some (.int .u8 (dt : Int)) := hB1.cell 6
    have f4 := hB1.frozen 4
    have f5 := hB1.frozen 5
    have f6 := hB1.frozen 6
    have ho1 : Only (fun j => j = g) w w1 := Only.of hb1
    have s1 := fun (o : Nat) (X : Value) => Only.setCell (S := fun j => j = g) ho1 ⟨g, o, none⟩ rfl X
    have s2 := fun (o o2 : Nat) (X Y : Value) => Only.setCell (S := fun j => j = g) (s1 o X) ⟨g, o2, none⟩ rfl Y
    have s3 := fun (o o2 o3 : Nat) (X Y Z : Value) => Only.setCell (S := fun j => j = g) (s2 o o2 X Y) ⟨g, o3, none⟩ rfl Z
    have S1 := hide s1
    have S2 := hide s2
    have S3 := hide s3
    clear s1 s2 s3
    go_wp2_with fail
    go_end0
    first
      | exact ⟨⟨_, rfl⟩, hB1.set_ 5 _, S1.out _ _⟩
      | exact ⟨⟨_, rfl⟩, (hB1.set_ 6 _).set_ 5 _, S2.out _ _ _ _⟩
      | exact ⟨⟨_, rfl⟩, ((hB1.set_ 5 _).set_ 5 _).set_ 4 (.int .i64 ((n : Int) + 1)), S3.out _ _ _ _ _ _⟩
theorem bsNextD_calls (g k f t N ph dt : Nat) (w : World) (hN : N ≤ 65536) (hB : BB w g k f t N N ph dt) :
    Calls Try.prog 12 #[.pointer (some ⟨g, 0, none⟩)] w fun e w' => e = .returned (.tuple #[.int .u8 2, .int .u16 0]) ∧ Below w.heap.size w w' := by
  have hD := bsDone_calls g k f t N N ph dt w hN (Nat.le_refl _) hB
  rw [decide_eq_true rfl] at hD
  go_enter Try.func12, Try.ntmps12
  go_wp2_with fail
  refine Cl.m hD ?_
  intro w1 hb1
  go_wp2_with fail
  go_ret2
  exact ⟨rfl, by (repeat (first | exact Below.refl _ _ | assumption | refine Below.drew ?_ | refine Bl.alloc ?_ _ | refine below_drewN ?_ _ | refine Bl.chain ?_ (by assumption) (Nat.le_refl _)))⟩
end Go.Proofs.Yticdlgbpbfcmaaa
