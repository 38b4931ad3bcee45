/-
  lines: Clone; gannetref07: Up, Next, To, Copy.
-/
import Derived.Test.YtdnpfddepnefnaaLn4
namespace Go.Proofs.Ytdnpfddepnefnaa
open Go.RowKit

theorem LB.below {w w' : World} {g : Nat} {o : Option Addr} {n c s : Nat} {Ln : Nat → Nat} {Up : Nat → Bool} {r : Bool} (h : LB w g o n c s Ln Up r) (hb : Below w.heap.size w w') : LB w' g o n c s Ln Up r := Blk.below h hb (Blk.lt h)
theorem LB.only {S : Nat → Prop} {w w' : World} {g : Nat} {o : Option Addr} {n c s : Nat} {Ln : Nat → Nat} {Up : Nat → Bool} {r : Bool} (h : LB w g o n c s Ln Up r) (ho : Only S w w') (hg : ¬ S g) : LB w' g o n c s Ln Up r := Blk.only h ho hg
set_option maxHeartbeats 4000000 in
theorem lnClone_calls (g : Nat) (o : Option Addr) (n c s : Nat) (St : Nat → Int) (Ln : Nat → Nat) (Up : Nat → Bool) (r : Bool) (w : World) (hn : n ≤ 1000) (hL : LB w g o n c s Ln Up r) (hE : EdgB w o n St Ln Up w.heap.size) :
    Calls Try.prog 14 #[.pointer (some ⟨g, 0, none⟩)] w fun e w' => ∃ g' o' c', e = .returned (.pointer (some ⟨g', 0, none⟩)) ∧ LB w' g' o' n c' s Ln Up r ∧ EdgB w' o' n St Ln Up w'.heap.size ∧ (∀ x, o' = some x → g' < x.block) ∧ w.heap.size ≤ g' ∧ Below w.heap.size w w' := by
  have hgl := Blk.lt hL
  have hL' := hL
  unfold LB at hL'
  obtain ⟨u0, hU0⟩ : ∃ u, upE Ln Up 0 s = u := ⟨_, rfl⟩
  obtain ⟨u1, hU1⟩ : ∃ u, upE Ln Up 1 s = u := ⟨_, rfl⟩
  obtain ⟨u2, hU2⟩ : ∃ u, upE Ln Up 2 s = u := ⟨_, rfl⟩
  obtain ⟨u3, hU3⟩ : ∃ u, upE Ln Up 3 s = u := ⟨_, rfl⟩
  rw [hU0, hU1, hU2, hU3] at hL'
  have c0 : w.cell? ⟨g, 0, none⟩ = some (.slice o n c) := Blk.cell hL' 0
  have c1 : w.cell? ⟨g, 1, none⟩ = some (.int .i64 (s : Int)) := Blk.cell hL' 1
  have c2 : w.cell? ⟨g, 2, none⟩ = some (.bool u0) := Blk.cell hL' 2
  have c3 : w.cell? ⟨g, 3, none⟩ = some (.bool u1) := Blk.cell hL' 3
  have c4 : w.cell? ⟨g, 4, none⟩ = some (.bool u2) := Blk.cell hL' 4
  have c5 : w.cell? ⟨g, 5, none⟩ = some (.bool u3) := Blk.cell hL' 5
  have c6 : w.cell? ⟨g, 6, none⟩ = some (.bool r) := Blk.cell hL' 6
  go_enter Try.func14, Try.ntmps14
  go_wp2_with fail
  have hbx : Below w.heap.size w (w.alloc (.cells #[.slice o n c, .int .i64 (s : Int), .bool u0, .bool u1, .bool u2, .bool u3, .bool r] 53)) := (Below.refl _ _).alloc (Nat.le_refl _) _
  have hBx : Blk (w.alloc (.cells #[.slice o n c, .int .i64 (s : Int), .bool u0, .bool u1, .bool u2, .bool u3, .bool r] 53)) w.heap.size 53 #[.slice o n c, .int .i64 (s : Int), .bool u0, .bool u1, .bool u2, .bool u3, .bool r] := Blk.new _ _ _
  generalize w.alloc (.cells #[.slice o n c, .int .i64 (s : Int), .bool u0, .bool u1, .bool u2, .bool u3, .bool r] 53) = w1 at *
  refine (slCloneE_calls o n c St Ln Up w1 hn ((hE.below hbx (Nat.le_refl _)).mono hbx.size)).mono ?_
  rintro e w2 ⟨o', c', rfl, hE2, hlo, hb2⟩
  have hB2 := hBx.below hb2 hBx.lt
  have d0 : w2.cell? ⟨w.heap.size, 0, none⟩ = some (.slice o n c) := hB2.cell 0
  have e0 : w2.frozen? ⟨w.heap.size, 0, none⟩ = false := hB2.frozen 0
  have hBl := hBx.lt
  have hLB : LB (w2.setCell ⟨w.heap.size, 0, none⟩ (.slice o' n c')) w.heap.size o' n c' s Ln Up r := by
    unfold LB
    rw [hU0, hU1, hU2, hU3]
    exact hB2.set_ 0 _
  go_wp2_with fail
  go_ret
  refine ⟨w.heap.size, o', c', rfl, hLB, ?_, fun x hx => by have := hlo x hx; omega, Nat.le_refl _, (hbx.trans (hb2.mono hbx.size)).setCell (p := ⟨w.heap.size, 0, none⟩) (Nat.le_refl _) _⟩
  refine EdgB.mono (EdgB.only1 (g := w.heap.size) hE2 (Only.setCell (S := fun j => j = w.heap.size) (Only.refl _ _) ⟨w.heap.size, 0, none⟩ rfl _) (fun x hx => ?_)) (by simp [World.setCell])
  have := hlo x hx
  omega
/-- The document's lines. -/
def RL (w : World) (h : Nat) (o : Option Addr) (n c s : Nat) (r : Bool) : Prop := Blk w h 36 #[.slice o n c, .int .i64 (s : Int), .bool r]
theorem rlCopy_calls (h : Nat) (o : Option Addr) (n c s : Nat) (r : Bool) (w : World) (hL : RL w h o n c s r) :
    Calls Try.prog 15 #[.pointer (some ⟨h, 0, none⟩)] w fun e w' => ∃ h', e = .returned (.pointer (some ⟨h', 0, none⟩)) ∧ RL w' h' o n c s r ∧ w.heap.size ≤ h' ∧ Below w.heap.size w w' := by
  have c0 : w.drew.cell? ⟨h, 0, none⟩ = some (.slice o n c) := Blk.cell hL 0
  have c1 : w.drew.cell? ⟨h, 1, none⟩ = some (.int .i64 (s : Int)) := Blk.cell hL 1
  have c2 : w.drew.cell? ⟨h, 2, none⟩ = some (.bool r) := Blk.cell hL 2
  go_enter Try.func15, Try.ntmps15
  go_wp2_with fail
  go_region
  all_goals
    go_wp2_with fail
    go_ret
    exact ⟨w.heap.size, rfl, Blk.new _ _ _, Nat.le_refl _, by (repeat (first | exact Below.refl _ _ | assumption | refine Below.drew ?_ | refine Bl.alloc ?_ _ | refine below_drewN ?_ _ | refine Bl.chain ?_ (by assumption) (Nat.le_refl _)))⟩
theorem rlNext_some (h : Nat) (o : Option Addr) (n c s : Nat) (St : Nat → Int) (Ln : Nat → Nat) (Up : Nat → Bool) (r : Bool) (B : Nat) (w : World) (hL : RL w h o n c s r) (hE : EdgB w o n St Ln Up B) (hs : s < n) :
    Calls Try.prog 25 #[.pointer (some ⟨h, 0, none⟩)] w fun e w' => e = .returned (.tuple #[.int .i64 (St s), .bool true]) ∧ ∃ q, w' = w.drewN q := by
  have c0 : w.cell? ⟨h, 0, none⟩ = some (.slice o n c) := Blk.cell hL 0
  have c1 : w.cell? ⟨h, 1, none⟩ = some (.int .i64 (s : Int)) := Blk.cell hL 1
  have hs' : (s : Int) < (n : Int) := by omega
  have hs2 : (decide ((n : Int) ≤ (s : Int))) = false := by rw [decide_eq_false_iff_not]; omega
  obtain ⟨b, off, rfl, hlt, x0, x1, x2⟩ := hE s hs
  have y0 : w.drew.cell? ⟨b, off + s * 3, none⟩ = some (.int .i64 (St s)) := x0
  go_enter Try.func25, Try.ntmps25
  go_wp2_with fail
  go_quiet (fail)
  go_wp2_with fail
  go_quiet (fail)
  go_wp2_with fail
  go_ret2
  exact ⟨rfl, drewN_twice _ _ _⟩
theorem rlNext_none (h : Nat) (o : Option Addr) (n c s : Nat) (r : Bool) (w : World) (hL : RL w h o n c s r) (hs : n ≤ s) :
    Calls Try.prog 25 #[.pointer (some ⟨h, 0, none⟩)] w fun e w' => e = .returned (.tuple #[.int .i64 0, .bool false]) ∧ ∃ q, w' = w.drewN q := by
  have c0 : w.cell? ⟨h, 0, none⟩ = some (.slice o n c) := Blk.cell hL 0
  have c1 : w.cell? ⟨h, 1, none⟩ = some (.int .i64 (s : Int)) := Blk.cell hL 1
  have hs' : (n : Int) ≤ (s : Int) := by omega
  go_enter Try.func25, Try.ntmps25
  go_wp2_with fail
  go_quiet (fail)
  go_wp2_with fail
  go_ret2
  exact ⟨rfl, _, rfl⟩
set_option maxHeartbeats 4000000 in
theorem rlUp_calls (h : Nat) (o : Option Addr) (n c s k : Nat) (St : Nat → Int) (Ln : Nat → Nat) (Up : Nat → Bool) (r : Bool) (B : Nat) (w : World) (hn : n ≤ 1000) (hL : RL w h o n c s r) (hE : EdgB w o n St Ln Up B) (hs : s ≤ n) :
    Calls Try.prog 26 #[.pointer (some ⟨h, 0, none⟩), .int .u8 (k : Int)] w fun e w' => e = .returned (.bool (upE Ln Up k s)) ∧ w = w' := by
  have c0 : w.cell? ⟨h, 0, none⟩ = some (.slice o n c) := Blk.cell hL 0
  have c1 : w.cell? ⟨h, 1, none⟩ = some (.int .i64 (s : Int)) := Blk.cell hL 1
  go_enter Try.func26, Try.ntmps26
  go_wp2_with fail
  go_loopw [5, 6] (fun u i wr => ∃ j : Nat, j ≤ s ∧ i = .int .i64 (j : Int) ∧ u = .bool (upE Ln Up k j) ∧ wr = w) (fun _ i _ => s - (intOf i).toNat)
  case atStart => exact ⟨0, by omega, rfl, rfl, rfl⟩
  case round =>
    obtain ⟨j, hj, rfl, rfl, rfl⟩ := hrel
    by_cases hjs : j < s
    · have i1 : (j : Int) < (s : Int) := by omega
      have i2 : (j : Int) < (n : Int) := by omega
      obtain ⟨b, off, rfl, hlt, x0, x1, x2⟩ := hE j (by omega)
      by_cases h2 : Ln j = k
      · have i3 : ((Ln j : Int) == (k : Int)) = true := by rw [beq_iff_eq]; omega
        have e : upE Ln Up k (j + 1) = Up j := if_pos h2
        clear h2
        go_wp2_with fail
        go_roundw
        case rel => exact ⟨j + 1, by omega, by go_num, by rw [e], trivial⟩
        case measure => simp [intOf]; omega
      · have i3 : ((Ln j : Int) == (k : Int)) = false := by rw [beq_eq_false_iff_ne]; omega
        have e : upE Ln Up k (j + 1) = upE Ln Up k j := if_neg h2
        clear h2
        go_wp2_with fail
        go_roundw
        case rel => exact ⟨j + 1, by omega, by go_num, by rw [e], trivial⟩
        case measure => simp [intOf]; omega
    · obtain rfl : j = s := by omega
      go_wp2_with fail
      go_ret
      exact ⟨rfl, rfl⟩
theorem RLq {w : World} {h : Nat} {o : Option Addr} {n c s : Nat} {r r' : Bool} (e : r = r') (hL : RL w h o n c s r) : RL w h o n c s r' := e ▸ hL
set_option maxHeartbeats 4000000 in
theorem rlTo_calls (h : Nat) (o : Option Addr) (n c s : Nat) (St : Nat → Int) (Ln : Nat → Nat) (Up : Nat → Bool) (r : Bool) (stamp : Int) (w : World) (hok : EdgOk n St Ln) (hs : s ≤ n) (hL : RL w h o n c s r) (hE : EdgB w o n St Ln Up w.heap.size) (hne : ∀ x, o = some x → x.block ≠ h) :
    Calls Try.prog 24 #[.pointer (some ⟨h, 0, none⟩), .int .i64 stamp] w fun e w' => (∃ v, e = .returned v) ∧
      RL w' h o n c (toE St Ln Up stamp (n - s) s r).1 (toE St Ln Up stamp (n - s) s r).2 ∧ Only (fun j => j = h) w w' := by
  obtain ⟨hn, hall⟩ := hok
  obtain ⟨T, hT⟩ : ∃ T, toE St Ln Up stamp (n - s) s r = T := ⟨_, rfl⟩
  rw [hT]
  have hhl := Blk.lt hL
  go_enter Try.func24, Try.ntmps24
  go_wp2_with fail
  go_loopw [4] (fun _ wr => ∃ (j : Nat) (q : Bool), j ≤ n ∧ toE St Ln Up stamp (n - j) j q = T ∧ RL wr h o n c j q ∧ Only (fun x => x = h) w wr) (fun _ wr => n - (intOf ((wr.cell? ⟨h, 1, none⟩).getD undef)).toNat)
  case atStart => exact ⟨s, r, hs, hT, hL, Only.refl _ _⟩
  case round =>
    obtain ⟨j, q, hj, hTj, hLr, hor⟩ := hrel
    have hEr := hE.only1 hor hne
    have hm0 : wr.cell? ⟨h, 1, none⟩ = some (.int .i64 (j : Int)) := Blk.cell hLr 1
    have c0 : wr.cell? ⟨h, 0, none⟩ = some (.slice o n c) := Blk.cell hLr 0
    by_cases hjn : j < n
    · have hjn' : (j : Int) < (n : Int) := by omega
      obtain ⟨y, hy⟩ : ∃ y, Ln j = y := ⟨_, rfl⟩
      obtain ⟨up, hup⟩ : ∃ y, Up j = y := ⟨_, rfl⟩
      obtain ⟨b, off, rfl, hlt, y0, y1, y2⟩ := hEr j hjn
      rw [hy] at y1
      rw [hup] at y2
      have y0d : wr.drew.cell? ⟨b, off + j * 3, none⟩ = some (.int .i64 (St j)) := y0
      have hbl := cell_lt y0
      by_cases hst : St j ≤ stamp
      · rw [toE_step hjn hst] at hTj
        have hy4 := (hall j hjn).1
        go_wp2_with fail
        go_quiet (fail)
        go_wp2_with fail
        have hL1 : RL (wr.drewN nq) h (some ⟨b, off, none⟩) n c j q := hLr
        have ho1 : Only (fun x => x = h) w (wr.drewN nq) := ⟨hor.os, hor.tape, hor.output, hor.size, hor.block⟩
        have hE1 : EdgB (wr.drewN nq) (some ⟨b, off, none⟩) n St Ln Up w.heap.size := hEr
        have z0 : (wr.drewN nq).drew.cell? ⟨b, off + j * 3, none⟩ = some (.int .i64 (St j)) := y0
        have z1 : (wr.drewN nq).drew.cell? ⟨b, off + j * 3 + 1, none⟩ = some (.int .u8 (y : Int)) := y1
        have z2 : (wr.drewN nq).drew.cell? ⟨b, off + j * 3 + 2, none⟩ = some (.bool up) := y2
        have hbl : b < (wr.drewN nq).heap.size := hbl
        generalize wr.drewN nq = w1 at *
        have x0 : w1.drew.cell? ⟨h, 0, none⟩ = some (.slice (some ⟨b, off, none⟩) n c) := Blk.cell hL1 0
        have x1 : w1.drew.cell? ⟨h, 1, none⟩ = some (.int .i64 (j : Int)) := Blk.cell hL1 1
        have p0 : w1.cell? ⟨b, off + j * 3, none⟩ = some (.int .i64 (St j)) := z0
        have p1 : w1.cell? ⟨b, off + j * 3 + 1, none⟩ = some (.int .u8 (y : Int)) := z1
        have p2 : w1.cell? ⟨b, off + j * 3 + 2, none⟩ = some (.bool up) := z2
        have q0 : w1.cell? ⟨h, 0, none⟩ = some (.slice (some ⟨b, off, none⟩) n c) := Blk.cell hL1 0
        have q1 : w1.cell? ⟨h, 1, none⟩ = some (.int .i64 (j : Int)) := Blk.cell hL1 1
        have hhl1 := Blk.lt hL1
        go_region
        have hE2 : Blk ((w1.alloc (.cells #[.int .i64 (St j), .int .u8 (y : Int), .bool up] 47)).drew) w1.heap.size 47 #[.int .i64 (St j), .int .u8 (y : Int), .bool up] := Blk.new _ _ _
        have hL2 : RL ((w1.alloc (.cells #[.int .i64 (St j), .int .u8 (y : Int), .bool up] 47)).drew) h (some ⟨b, off, none⟩) n c j q := Blk.drew (Blk.alloc hL1 _)
        have ho2 : Only (fun x => x = h) w ((w1.alloc (.cells #[.int .i64 (St j), .int .u8 (y : Int), .bool up] 47)).drew) := (ho1.alloc _).drew
        have hG2 : EdgB ((w1.alloc (.cells #[.int .i64 (St j), .int .u8 (y : Int), .bool up] 47)).drew) (some ⟨b, off, none⟩) n St Ln Up w.heap.size := EdgB.only (S := fun _ => False) hE1 ((Only.refl _ _).alloc _).drew (fun _ _ e => e)
        generalize (w1.alloc (.cells #[.int .i64 (St j), .int .u8 (y : Int), .bool up] 47)).drew = w2 at *
        have k1 : w2.cell? ⟨w1.heap.size, 1, none⟩ = some (.int .u8 (y : Int)) := hE2.cell 1
        have k2 : w2.cell? ⟨w1.heap.size, 2, none⟩ = some (.bool up) := hE2.cell 2
        have l1 : w2.cell? ⟨h, 1, none⟩ = some (.int .i64 (j : Int)) := Blk.cell hL2 1
        have l2 : w2.cell? ⟨h, 2, none⟩ = some (.bool q) := Blk.cell hL2 2
        have f1 : w2.frozen? ⟨h, 1, none⟩ = false := Blk.frozen hL2 1
        have f2 : w2.frozen? ⟨h, 2, none⟩ = false := Blk.frozen hL2 2
        clear p0 p1 p2 q0 q1 z0 z1 z2 x0 x1 y0 y1 y2 y0d c0
        have hA : RL (w2.setCell ⟨h, 1, none⟩ (.int .i64 ((j : Int) + 1))) h (some ⟨b, off, none⟩) n c (j + 1) q := Blk.set_ hL2 1 (.int .i64 ((j : Int) + 1))
        have hB : RL ((w2.setCell ⟨h, 2, none⟩ (.bool true)).setCell ⟨h, 1, none⟩ (.int .i64 ((j : Int) + 1))) h (some ⟨b, off, none⟩) n c (j + 1) true := Blk.set_ (Blk.set_ hL2 2 (.bool true)) 1 (.int .i64 ((j : Int) + 1))
        have mA := Blk.cell hA 1
        have mB := Blk.cell hB 1
        have MA := hide mA
        have MB := hide mB
        clear mA mB
        have hrs : rsE Ln Up j = (decide (y = 1) && up && !upE Ln Up 1 j) := by unfold rsE; rw [hy, hup]
        rw [hrs] at hTj
        by_cases hy1 : y = 1
        · rw [hy1] at k1 hTj
          clear hrs hy1
          cases up with
          | false =>
            go_wp2_with fail
            go_roundw
            case rel => exact ⟨j + 1, _, by omega, hTj, RLq (by cases q <;> rfl) hA, Only.setCell (S := fun x => x = h) ho2 ⟨h, 1, none⟩ rfl _⟩
            case measure =>
              first | rw [MA.out] | rw [MB.out]
              simp [hm0, intOf]
              omega
          | true =>
            have hup1 := rlUp_calls h (some ⟨b, off, none⟩) n c j 1 St Ln Up q w.heap.size w2 hn hL2 hG2 hj
            generalize upE Ln Up 1 j = u1 at *
            cases u1 with
            | true =>
              go_wp2_with fail
              refine Cl.p hup1 ?_
              go_wp2_with fail
              go_roundw
              case rel => exact ⟨j + 1, _, by omega, hTj, RLq (by cases q <;> rfl) hA, Only.setCell (S := fun x => x = h) ho2 ⟨h, 1, none⟩ rfl _⟩
              case measure =>
                first | rw [MA.out] | rw [MB.out]
                simp [hm0, intOf]
                omega
            | false =>
              go_wp2_with fail
              refine Cl.p hup1 ?_
              go_wp2_with fail
              go_roundw
              case rel => exact ⟨j + 1, _, by omega, hTj, RLq (by cases q <;> rfl) hB, Only.setCell (S := fun x => x = h) (Only.setCell (S := fun x => x = h) ho2 ⟨h, 2, none⟩ rfl _) ⟨h, 1, none⟩ rfl _⟩
              case measure =>
                first | rw [MA.out] | rw [MB.out]
                simp [hm0, intOf]
                omega
        · have hyf : ((y : Int) == 1) = false := by rw [beq_eq_false_iff_ne]; omega
          rw [show decide (y = 1) = false from decide_eq_false hy1] at hTj
          clear hrs hy1
          go_wp2_with fail
          go_roundw
          case rel => exact ⟨j + 1, _, by omega, hTj, RLq (by cases q <;> rfl) hA, Only.setCell (S := fun x => x = h) ho2 ⟨h, 1, none⟩ rfl _⟩
          case measure =>
            first | rw [MA.out] | rw [MB.out]
            simp [hm0, intOf]
            omega
      · have i1 : stamp < St j := by omega
        have i2 : (decide (St j ≤ stamp)) = false := by rw [decide_eq_false_iff_not]; omega
        rw [toE_stop hjn i1] at hTj
        go_wp2_with fail
        go_quiet (fail)
        go_wp2_with fail
        go_end0
        rw [← hTj]
        exact ⟨⟨_, rfl⟩, hLr, ⟨hor.os, hor.tape, hor.output, hor.size, hor.block⟩⟩
    · obtain rfl : j = n := by omega
      rw [toE_end] at hTj
      have i2 : (decide ((j : Int) < (j : Int))) = false := by rw [decide_eq_false_iff_not]; omega
      go_wp2_with fail
      go_quiet (fail)
      go_wp2_with fail
      go_end0
      rw [← hTj]
      exact ⟨⟨_, rfl⟩, hLr, ⟨hor.os, hor.tape, hor.output, hor.size, hor.block⟩⟩
end Go.Proofs.Ytdnpfddepnefnaa
