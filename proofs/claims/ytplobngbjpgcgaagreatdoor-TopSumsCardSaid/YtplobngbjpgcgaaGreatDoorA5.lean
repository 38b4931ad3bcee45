/-
  The texts Ln4, Ln5, L07 of the proof of TopSums, as one file (they are merged by a program).
-/
import Derived.Test.YtplobngbjpgcgaaGreatDoorA4
import Derived.BigQuiet
import Derived.Deep.RegionLaw
import Derived.Deep.RegionHeld3
section
/-
  lines: pass, To, Clone; gannetref07: Up, To, Next, Copy.
-/
namespace Go.Proofs.YtplobngbjpgcgaaGreatDoor
set_option linter.unusedSimpArgs false
set_option linter.unusedVariables false
set_option maxRecDepth 10000
open Go.RowKit

/-- Lines, cell by cell. -/
def LV (w : World) (g : Nat) (o : Option Addr) (n c s : Nat) (u0 u1 u2 u3 r : Bool) : Prop :=
  Blk w g 147 #[.slice o n c, .int .i64 (s : Int), .bool u0, .bool u1, .bool u2, .bool u3, .bool r]
set_option maxHeartbeats 4000000 in
theorem lnPass_lit (g : Nat) (o : Option Addr) (n c s y : Nat) (st : Int) (up u0 u1 u2 u3 r : Bool) (w : World) (hy : y < 4) (hs : s < 4611686018427387904) (hL : LV w g o n c s u0 u1 u2 u3 r) :
    Calls Tryz.prog 222 #[.pointer (some ⟨g, 0, none⟩), .agg #[.int .i64 st, .int .u8 (y : Int), .bool up]] w fun e w' => (∃ v, e = .returned v) ∧
      LV w' g o n c (s + 1) (if y = 0 then up else u0) (if y = 1 then up else u1) (if y = 2 then up else u2) (if y = 3 then up else u3) (r || (decide (y = 1) && up && !u1)) ∧ Only (fun j => j = g) w w' := by
  have hL1 : LV (w.alloc (.cells #[.int .i64 st, .int .u8 (y : Int), .bool up] 144)) g o n c s u0 u1 u2 u3 r := Blk.alloc hL _
  have hE1 : Blk (w.alloc (.cells #[.int .i64 st, .int .u8 (y : Int), .bool up] 144)) w.heap.size 144 #[.int .i64 st, .int .u8 (y : Int), .bool up] := Blk.new _ _ _
  have ho1 : Only (fun j => j = g) w (w.alloc (.cells #[.int .i64 st, .int .u8 (y : Int), .bool up] 144)) := (Only.refl _ _).alloc _
  have hgl := Blk.lt hL
  have hy' : y = 0 ∨ y = 1 ∨ y = 2 ∨ y = 3 := by omega
  rcases hy' with rfl | rfl | rfl | rfl
  · skip
    go_enter Tryz.func222, Tryz.ntmps222
    go_wp2_with fail
    go_quiet (fail)
    have hL2 : LV ((w.alloc (.cells #[.int .i64 st, .int .u8 (0 : Int), .bool up] 144)).drewN nq) g o n c s u0 u1 u2 u3 r := hL1
    have hE2 : Blk ((w.alloc (.cells #[.int .i64 st, .int .u8 (0 : Int), .bool up] 144)).drewN nq) w.heap.size 144 #[.int .i64 st, .int .u8 (0 : Int), .bool up] := hE1
    have ho2 : Only (fun j => j = g) w ((w.alloc (.cells #[.int .i64 st, .int .u8 (0 : Int), .bool up] 144)).drewN nq) := ⟨ho1.os, ho1.tape, ho1.output, ho1.size, ho1.block⟩
    generalize (w.alloc (.cells #[.int .i64 st, .int .u8 (0 : Int), .bool up] 144)).drewN nq = w2 at *
    go_wp2_with fail
    have y1 : w2.drew.cell? ⟨w.heap.size, 1, none⟩ = some (.int .u8 0) := Blk.cell hE2 1
    have y2 : w2.drew.cell? ⟨w.heap.size, 2, none⟩ = some (.bool up) := Blk.cell hE2 2
    have z1 : w2.drew.cell? ⟨g, 2, none⟩ = some (.bool u0) := Blk.cell hL2 2
    have z2 : w2.drew.frozen? ⟨g, 2, none⟩ = false := Blk.frozen hL2 2
    have z0 : w2.cell? ⟨g, 1, none⟩ = some (.int .i64 (s : Int)) := Blk.cell hL2 1
    have z3 : w2.frozen? ⟨g, 1, none⟩ = false := Blk.frozen hL2 1
    go_region
    all_goals
      go_wp2_with fail
      go_end0
      refine ⟨⟨_, rfl⟩, ?_, Only.setCell (S := fun j => j = g) (Only.drew (Only.setCell (S := fun j => j = g) ho2 ⟨g, 2, none⟩ rfl _)) ⟨g, 1, none⟩ rfl _⟩
      first | exact Blk.set_ (Blk.drew (Blk.set_ hL2 2 (.bool up))) 1 (.int .i64 ((s : Int) + 1)) | (cases r <;> exact Blk.set_ (Blk.drew (Blk.set_ hL2 2 (.bool up))) 1 (.int .i64 ((s : Int) + 1)))
  · cases up with
    | false =>
      go_enter Tryz.func222, Tryz.ntmps222
      go_wp2_with fail
      go_quiet (fail)
      have hL2 : LV ((w.alloc (.cells #[.int .i64 st, .int .u8 (1 : Int), .bool false] 144)).drewN nq) g o n c s u0 u1 u2 u3 r := hL1
      have hE2 : Blk ((w.alloc (.cells #[.int .i64 st, .int .u8 (1 : Int), .bool false] 144)).drewN nq) w.heap.size 144 #[.int .i64 st, .int .u8 (1 : Int), .bool false] := hE1
      have ho2 : Only (fun j => j = g) w ((w.alloc (.cells #[.int .i64 st, .int .u8 (1 : Int), .bool false] 144)).drewN nq) := ⟨ho1.os, ho1.tape, ho1.output, ho1.size, ho1.block⟩
      generalize (w.alloc (.cells #[.int .i64 st, .int .u8 (1 : Int), .bool false] 144)).drewN nq = w2 at *
      go_wp2_with fail
      have y1 : w2.drew.cell? ⟨w.heap.size, 1, none⟩ = some (.int .u8 1) := Blk.cell hE2 1
      have y2 : w2.drew.cell? ⟨w.heap.size, 2, none⟩ = some (.bool false) := Blk.cell hE2 2
      have z1 : w2.drew.cell? ⟨g, 3, none⟩ = some (.bool u1) := Blk.cell hL2 3
      have z2 : w2.drew.frozen? ⟨g, 3, none⟩ = false := Blk.frozen hL2 3
      have z0 : w2.cell? ⟨g, 1, none⟩ = some (.int .i64 (s : Int)) := Blk.cell hL2 1
      have z3 : w2.frozen? ⟨g, 1, none⟩ = false := Blk.frozen hL2 1
      go_region
      all_goals
        go_wp2_with fail
        go_end0
        refine ⟨⟨_, rfl⟩, ?_, Only.setCell (S := fun j => j = g) (Only.drew (Only.setCell (S := fun j => j = g) ho2 ⟨g, 3, none⟩ rfl _)) ⟨g, 1, none⟩ rfl _⟩
        first | exact Blk.set_ (Blk.drew (Blk.set_ hL2 3 (.bool false))) 1 (.int .i64 ((s : Int) + 1)) | (cases r <;> exact Blk.set_ (Blk.drew (Blk.set_ hL2 3 (.bool false))) 1 (.int .i64 ((s : Int) + 1)))
    | true =>
      cases u1 with
      | false =>
        have k3 : (w.alloc (.cells #[.int .i64 st, .int .u8 (1 : Int), .bool true] 144)).cell? ⟨g, 3, none⟩ = some (.bool false) := Blk.cell hL1 3
        have k3d : (w.alloc (.cells #[.int .i64 st, .int .u8 (1 : Int), .bool true] 144)).drew.cell? ⟨g, 3, none⟩ = some (.bool false) := k3
        go_enter Tryz.func222, Tryz.ntmps222
        go_wp2_with fail
        go_quiet (fail)
        have hL2 : LV ((w.alloc (.cells #[.int .i64 st, .int .u8 (1 : Int), .bool true] 144)).drewN nq) g o n c s u0 false u2 u3 r := hL1
        have hE2 : Blk ((w.alloc (.cells #[.int .i64 st, .int .u8 (1 : Int), .bool true] 144)).drewN nq) w.heap.size 144 #[.int .i64 st, .int .u8 (1 : Int), .bool true] := hE1
        have ho2 : Only (fun j => j = g) w ((w.alloc (.cells #[.int .i64 st, .int .u8 (1 : Int), .bool true] 144)).drewN nq) := ⟨ho1.os, ho1.tape, ho1.output, ho1.size, ho1.block⟩
        generalize (w.alloc (.cells #[.int .i64 st, .int .u8 (1 : Int), .bool true] 144)).drewN nq = w2 at *
        have f6 : w2.frozen? ⟨g, 6, none⟩ = false := Blk.frozen hL2 6
        have k6 : w2.cell? ⟨g, 6, none⟩ = some (.bool r) := Blk.cell hL2 6
        have hL3 : LV (w2.setCell ⟨g, 6, none⟩ (.bool true)) g o n c s u0 false u2 u3 true := Blk.set_ hL2 6 _
        have hE3 : Blk (w2.setCell ⟨g, 6, none⟩ (.bool true)) w.heap.size 144 #[.int .i64 st, .int .u8 (1 : Int), .bool true] := Blk.far (p := ⟨g, 6, none⟩) hE2 (by simp; omega) _
        have ho3 : Only (fun j => j = g) w (w2.setCell ⟨g, 6, none⟩ (.bool true)) := Only.setCell (S := fun j => j = g) ho2 ⟨g, 6, none⟩ rfl _
        go_wp2_with fail
        generalize w2.setCell ⟨g, 6, none⟩ (.bool true) = w3 at *
        have y1 : w3.drew.cell? ⟨w.heap.size, 1, none⟩ = some (.int .u8 1) := Blk.cell hE3 1
        have y2 : w3.drew.cell? ⟨w.heap.size, 2, none⟩ = some (.bool true) := Blk.cell hE3 2
        have z1 : w3.drew.cell? ⟨g, 3, none⟩ = some (.bool false) := Blk.cell hL3 3
        have z2 : w3.drew.frozen? ⟨g, 3, none⟩ = false := Blk.frozen hL3 3
        have z0 : w3.cell? ⟨g, 1, none⟩ = some (.int .i64 (s : Int)) := Blk.cell hL3 1
        have z3 : w3.frozen? ⟨g, 1, none⟩ = false := Blk.frozen hL3 1
        go_region
        all_goals
          go_wp2_with fail
          go_end0
          refine ⟨⟨_, rfl⟩, ?_, Only.setCell (S := fun j => j = g) (Only.drew (Only.setCell (S := fun j => j = g) ho3 ⟨g, 3, none⟩ rfl _)) ⟨g, 1, none⟩ rfl _⟩
          first | exact Blk.set_ (Blk.drew (Blk.set_ hL3 3 (.bool true))) 1 (.int .i64 ((s : Int) + 1)) | (cases r <;> exact Blk.set_ (Blk.drew (Blk.set_ hL3 3 (.bool true))) 1 (.int .i64 ((s : Int) + 1)))
      | true =>
        have k3 : (w.alloc (.cells #[.int .i64 st, .int .u8 (1 : Int), .bool true] 144)).cell? ⟨g, 3, none⟩ = some (.bool true) := Blk.cell hL1 3
        have k3d : (w.alloc (.cells #[.int .i64 st, .int .u8 (1 : Int), .bool true] 144)).drew.cell? ⟨g, 3, none⟩ = some (.bool true) := k3
        go_enter Tryz.func222, Tryz.ntmps222
        go_wp2_with fail
        go_quiet (fail)
        have hL2 : LV ((w.alloc (.cells #[.int .i64 st, .int .u8 (1 : Int), .bool true] 144)).drewN nq) g o n c s u0 true u2 u3 r := hL1
        have hE2 : Blk ((w.alloc (.cells #[.int .i64 st, .int .u8 (1 : Int), .bool true] 144)).drewN nq) w.heap.size 144 #[.int .i64 st, .int .u8 (1 : Int), .bool true] := hE1
        have ho2 : Only (fun j => j = g) w ((w.alloc (.cells #[.int .i64 st, .int .u8 (1 : Int), .bool true] 144)).drewN nq) := ⟨ho1.os, ho1.tape, ho1.output, ho1.size, ho1.block⟩
        generalize (w.alloc (.cells #[.int .i64 st, .int .u8 (1 : Int), .bool true] 144)).drewN nq = w2 at *
        go_wp2_with fail
        have y1 : w2.drew.cell? ⟨w.heap.size, 1, none⟩ = some (.int .u8 1) := Blk.cell hE2 1
        have y2 : w2.drew.cell? ⟨w.heap.size, 2, none⟩ = some (.bool true) := Blk.cell hE2 2
        have z1 : w2.drew.cell? ⟨g, 3, none⟩ = some (.bool true) := Blk.cell hL2 3
        have z2 : w2.drew.frozen? ⟨g, 3, none⟩ = false := Blk.frozen hL2 3
        have z0 : w2.cell? ⟨g, 1, none⟩ = some (.int .i64 (s : Int)) := Blk.cell hL2 1
        have z3 : w2.frozen? ⟨g, 1, none⟩ = false := Blk.frozen hL2 1
        go_region
        all_goals
          go_wp2_with fail
          go_end0
          refine ⟨⟨_, rfl⟩, ?_, Only.setCell (S := fun j => j = g) (Only.drew (Only.setCell (S := fun j => j = g) ho2 ⟨g, 3, none⟩ rfl _)) ⟨g, 1, none⟩ rfl _⟩
          first | exact Blk.set_ (Blk.drew (Blk.set_ hL2 3 (.bool true))) 1 (.int .i64 ((s : Int) + 1)) | (cases r <;> exact Blk.set_ (Blk.drew (Blk.set_ hL2 3 (.bool true))) 1 (.int .i64 ((s : Int) + 1)))
  · skip
    go_enter Tryz.func222, Tryz.ntmps222
    go_wp2_with fail
    go_quiet (fail)
    have hL2 : LV ((w.alloc (.cells #[.int .i64 st, .int .u8 (2 : Int), .bool up] 144)).drewN nq) g o n c s u0 u1 u2 u3 r := hL1
    have hE2 : Blk ((w.alloc (.cells #[.int .i64 st, .int .u8 (2 : Int), .bool up] 144)).drewN nq) w.heap.size 144 #[.int .i64 st, .int .u8 (2 : Int), .bool up] := hE1
    have ho2 : Only (fun j => j = g) w ((w.alloc (.cells #[.int .i64 st, .int .u8 (2 : Int), .bool up] 144)).drewN nq) := ⟨ho1.os, ho1.tape, ho1.output, ho1.size, ho1.block⟩
    generalize (w.alloc (.cells #[.int .i64 st, .int .u8 (2 : Int), .bool up] 144)).drewN nq = w2 at *
    go_wp2_with fail
    have y1 : w2.drew.cell? ⟨w.heap.size, 1, none⟩ = some (.int .u8 2) := Blk.cell hE2 1
    have y2 : w2.drew.cell? ⟨w.heap.size, 2, none⟩ = some (.bool up) := Blk.cell hE2 2
    have z1 : w2.drew.cell? ⟨g, 4, none⟩ = some (.bool u2) := Blk.cell hL2 4
    have z2 : w2.drew.frozen? ⟨g, 4, none⟩ = false := Blk.frozen hL2 4
    have z0 : w2.cell? ⟨g, 1, none⟩ = some (.int .i64 (s : Int)) := Blk.cell hL2 1
    have z3 : w2.frozen? ⟨g, 1, none⟩ = false := Blk.frozen hL2 1
    go_region
    all_goals
      go_wp2_with fail
      go_end0
      refine ⟨⟨_, rfl⟩, ?_, Only.setCell (S := fun j => j = g) (Only.drew (Only.setCell (S := fun j => j = g) ho2 ⟨g, 4, none⟩ rfl _)) ⟨g, 1, none⟩ rfl _⟩
      first | exact Blk.set_ (Blk.drew (Blk.set_ hL2 4 (.bool up))) 1 (.int .i64 ((s : Int) + 1)) | (cases r <;> exact Blk.set_ (Blk.drew (Blk.set_ hL2 4 (.bool up))) 1 (.int .i64 ((s : Int) + 1)))
  · skip
    go_enter Tryz.func222, Tryz.ntmps222
    go_wp2_with fail
    go_quiet (fail)
    have hL2 : LV ((w.alloc (.cells #[.int .i64 st, .int .u8 (3 : Int), .bool up] 144)).drewN nq) g o n c s u0 u1 u2 u3 r := hL1
    have hE2 : Blk ((w.alloc (.cells #[.int .i64 st, .int .u8 (3 : Int), .bool up] 144)).drewN nq) w.heap.size 144 #[.int .i64 st, .int .u8 (3 : Int), .bool up] := hE1
    have ho2 : Only (fun j => j = g) w ((w.alloc (.cells #[.int .i64 st, .int .u8 (3 : Int), .bool up] 144)).drewN nq) := ⟨ho1.os, ho1.tape, ho1.output, ho1.size, ho1.block⟩
    generalize (w.alloc (.cells #[.int .i64 st, .int .u8 (3 : Int), .bool up] 144)).drewN nq = w2 at *
    go_wp2_with fail
    have y1 : w2.drew.cell? ⟨w.heap.size, 1, none⟩ = some (.int .u8 3) := Blk.cell hE2 1
    have y2 : w2.drew.cell? ⟨w.heap.size, 2, none⟩ = some (.bool up) := Blk.cell hE2 2
    have z1 : w2.drew.cell? ⟨g, 5, none⟩ = some (.bool u3) := Blk.cell hL2 5
    have z2 : w2.drew.frozen? ⟨g, 5, none⟩ = false := Blk.frozen hL2 5
    have z0 : w2.cell? ⟨g, 1, none⟩ = some (.int .i64 (s : Int)) := Blk.cell hL2 1
    have z3 : w2.frozen? ⟨g, 1, none⟩ = false := Blk.frozen hL2 1
    go_region
    all_goals
      go_wp2_with fail
      go_end0
      refine ⟨⟨_, rfl⟩, ?_, Only.setCell (S := fun j => j = g) (Only.drew (Only.setCell (S := fun j => j = g) ho2 ⟨g, 5, none⟩ rfl _)) ⟨g, 1, none⟩ rfl _⟩
      first | exact Blk.set_ (Blk.drew (Blk.set_ hL2 5 (.bool up))) 1 (.int .i64 ((s : Int) + 1)) | (cases r <;> exact Blk.set_ (Blk.drew (Blk.set_ hL2 5 (.bool up))) 1 (.int .i64 ((s : Int) + 1)))
-- behind pass
theorem lnPass_calls (g : Nat) (o : Option Addr) (n c s : Nat) (st : Int) (Ln : Nat → Nat) (Up : Nat → Bool) (r : Bool) (w : World) (hy : Ln s < 4) (hs : s < 4611686018427387904) (hL : LB w g o n c s Ln Up r) :
    Calls Tryz.prog 222 #[.pointer (some ⟨g, 0, none⟩), .agg #[.int .i64 st, .int .u8 (Ln s : Int), .bool (Up s)]] w fun e w' => (∃ v, e = .returned v) ∧
      LB w' g o n c (s + 1) Ln Up (r || rsE Ln Up s) ∧ Only (fun j => j = g) w w' :=
  (lnPass_lit g o n c s (Ln s) st (Up s) _ _ _ _ r w hy hs hL)
theorem EdgB.only1 {w w' : World} {a : Option Addr} {n g : Nat} {St : Nat → Int} {Ln : Nat → Nat} {Up : Nat → Bool} {B : Nat} (h : EdgB w a n St Ln Up B) (ho : Only (fun j => j = g) w w') (hne : ∀ x, a = some x → x.block ≠ g) : EdgB w' a n St Ln Up B := fun i hi => by
  obtain ⟨b, off, ha, hlt, h0, h1, h2⟩ := h i hi
  have e := ho.block b (cell_lt h0) (hne _ ha)
  exact ⟨b, off, ha, hlt, (World.cell?_of_block e).trans h0, (World.cell?_of_block e).trans h1, (World.cell?_of_block e).trans h2⟩
/-- Edges that all may be. -/
def EdgOk (n : Nat) (St : Nat → Int) (Ln : Nat → Nat) : Prop := n ≤ 1000 ∧ ∀ i, i < n → Ln i < 4 ∧ 0 ≤ St i ∧ (0 < i → St (i - 1) ≤ St i)
set_option maxHeartbeats 4000000 in
theorem lnTo_calls (g : Nat) (o : Option Addr) (n c s : Nat) (St : Nat → Int) (Ln : Nat → Nat) (Up : Nat → Bool) (r : Bool) (stamp : Int) (w : World) (hok : EdgOk n St Ln) (hs : s ≤ n) (hL : LB w g o n c s Ln Up r) (hE : EdgB w o n St Ln Up w.heap.size) (hne : ∀ x, o = some x → x.block ≠ g) :
    Calls Tryz.prog 202 #[.pointer (some ⟨g, 0, none⟩), .int .i64 stamp] w fun e w' => (∃ v, e = .returned v) ∧
      LB w' g o n c (toE St Ln Up stamp (n - s) s r).1 Ln Up (toE St Ln Up stamp (n - s) s r).2 ∧ Only (fun j => j = g) w w' := by
  obtain ⟨hn, hall⟩ := hok
  obtain ⟨T, hT⟩ : ∃ T, toE St Ln Up stamp (n - s) s r = T := ⟨_, rfl⟩
  rw [hT]
  go_enter Tryz.func202, Tryz.ntmps202
  go_wp2_with fail
  go_loopw [4, 5] (fun _ _ wr => ∃ (j : Nat) (q : Bool), j ≤ n ∧ toE St Ln Up stamp (n - j) j q = T ∧ LB wr g o n c j Ln Up q ∧ Only (fun x => x = g) w wr) (fun _ _ wr => n - (intOf ((wr.cell? ⟨g, 1, none⟩).getD undef)).toNat)
  case atStart => exact ⟨s, r, hs, hT, hL, Only.refl _ _⟩
  case round =>
    obtain ⟨j, q, hj, hTj, hLr, hor⟩ := hrel
    have hEr := hE.only1 hor hne
    have hm0 : wr.cell? ⟨g, 1, none⟩ = some (.int .i64 (j : Int)) := Blk.cell hLr 1
    by_cases hjn : j < n
    · have hEw : EdgB wr o n St Ln Up wr.heap.size := hEr.mono hor.size
      by_cases hst : St j ≤ stamp
      · skip
        have i1 : (decide (stamp < St j)) = false := by rw [decide_eq_false_iff_not]; omega
        rw [toE_step hjn hst] at hTj
        go_wp2_with fail
        refine (lnNext_some g o n c j St Ln Up q _ hLr hEw hjn).mono ?_
        rintro e w1 ⟨rfl, nq, rfl⟩
        go_wp2_with fail
        have hL1 : LB (wr.drewN nq) g o n c j Ln Up q := hLr
        have ho1 : Only (fun x => x = g) w (wr.drewN nq) := ⟨hor.os, hor.tape, hor.output, hor.size, hor.block⟩
        have hE1 : EdgB (wr.drewN nq) o n St Ln Up w.heap.size := hEr
        generalize wr.drewN nq = w1 at *
        clear hLr hEr hEw hor
        have x0 : w1.drew.cell? ⟨g, 0, none⟩ = some (.slice o n c) := Blk.cell hL1 0
        have x1 : w1.drew.cell? ⟨g, 1, none⟩ = some (.int .i64 (j : Int)) := Blk.cell hL1 1
        obtain ⟨b, off, rfl, hlt, y0, y1, y2⟩ := hE1 j hjn
        have y0 : w1.drew.cell? ⟨b, off + j * 3, none⟩ = some (.int .i64 (St j)) := y0
        have y1 : w1.drew.cell? ⟨b, off + j * 3 + 1, none⟩ = some (.int .u8 (Ln j : Int)) := y1
        have y2 : w1.drew.cell? ⟨b, off + j * 3 + 2, none⟩ = some (.bool (Up j)) := y2
        have hjn' : (j : Int) < (n : Int) := by omega
        have hps := lnPass_calls g (some ⟨b, off, none⟩) n c j (St j) Ln Up q w1.drew (hall j hjn).1 (by omega) (Blk.drew hL1)
        go_region_law (first
          | (go_simp; go_at_call 222; refine hps.mono ?_; rintro e w2 ⟨⟨_, rfl⟩, hL2, ho2⟩))
        all_goals
          go_wp2_with fail
          go_roundw
          case rel => exact ⟨j + 1, _, by omega, hTj, hL2, ho1.drew.trans (by exact ho2)⟩
          case measure =>
            have m1 : w2.cell? ⟨g, 1, none⟩ = some (.int .i64 ((j + 1 : Nat) : Int)) := Blk.cell hL2 1
            have m0 : wr.cell? ⟨g, 1, none⟩ = some (.int .i64 (j : Int)) := hm0
            simp [m1, m0, intOf]
            omega
      · skip
        have i1 : stamp < St j := by omega
        rw [toE_stop hjn i1] at hTj
        go_wp2_with fail
        refine (lnNext_some g o n c j St Ln Up q _ hLr hEw hjn).mono ?_
        rintro e w1 ⟨rfl, nq, rfl⟩
        go_wp2_with fail
        (try simp only [Exit.inBlock, Exit.then])
        refine bodyPost_ret (results_none rfl _ _ _) rfl ?_
        rw [← hTj]
        exact ⟨⟨_, rfl⟩, hLr, ⟨hor.os, hor.tape, hor.output, hor.size, hor.block⟩⟩
    · obtain rfl : j = n := by omega
      rw [toE_end] at hTj
      go_wp2_with fail
      refine (lnNext_none g o j c j Ln Up q _ hLr (Nat.le_refl _)).mono ?_
      rintro e w1 ⟨rfl, nq, rfl⟩
      go_wp2_with fail
      (try simp only [Exit.inBlock, Exit.then])
      refine bodyPost_ret (results_none rfl _ _ _) rfl ?_
      rw [← hTj]
      exact ⟨⟨_, rfl⟩, hLr, ⟨hor.os, hor.tape, hor.output, hor.size, hor.block⟩⟩
end Go.Proofs.YtplobngbjpgcgaaGreatDoor
end
section
/-
  lines: Clone; gannetref07: Up, Next, To, Copy.
-/
namespace Go.Proofs.YtplobngbjpgcgaaGreatDoor
set_option linter.unusedSimpArgs false
set_option linter.unusedVariables false
set_option maxRecDepth 10000
open Go.RowKit

theorem LB.below {w w' : World} {g : Nat} {o : Option Addr} {n c s : Nat} {Ln : Nat → Nat} {Up : Nat → Bool} {r : Bool} (h : LB w g o n c s Ln Up r) (hb : Below w.heap.size w w') : LB w' g o n c s Ln Up r := Blk.below h hb (Blk.lt h)
theorem LB.only {S : Nat → Prop} {w w' : World} {g : Nat} {o : Option Addr} {n c s : Nat} {Ln : Nat → Nat} {Up : Nat → Bool} {r : Bool} (h : LB w g o n c s Ln Up r) (ho : Only S w w') (hg : ¬ S g) : LB w' g o n c s Ln Up r := Blk.only h ho hg
end Go.Proofs.YtplobngbjpgcgaaGreatDoor
end
section
/-
  gannetlaw07: live, LinesAt, LinesCheck.
-/
namespace Go.Proofs.YtplobngbjpgcgaaGreatDoor
set_option linter.unusedSimpArgs false
set_option linter.unusedVariables false
set_option maxRecDepth 10000
open Go.RowKit

end Go.Proofs.YtplobngbjpgcgaaGreatDoor
end
