/-
  The texts Hard2, Dev, Tick1, Map1 of the proof of TopSums, as one file (they are merged by a program).
-/
import Derived.Test.YtplobngbjpgcgaaGreatDoorA10
import Derived.Test.YtplobngbjpgcgaaGreatDoorA7
import Derived.Test.YtplobngbjpgcgaaGreatDoorA8
section
/-
  hard: New at bad edges, To while the timer stands still, Choose, Read where there is nothing.
-/
namespace Go.Proofs.YtplobngbjpgcgaaGreatDoor
set_option linter.unusedSimpArgs false
set_option linter.unusedVariables false
set_option maxRecDepth 10000
open Go.RowKit Pl
end Go.Proofs.YtplobngbjpgcgaaGreatDoor
end
section
/-
  All devices as one: what they hold.
-/
namespace Go.Proofs.YtplobngbjpgcgaaGreatDoor
set_option linter.unusedSimpArgs false
set_option linter.unusedVariables false
set_option maxRecDepth 10000
open Go.RowKit Pl
/-- Where they lie. -/
structure DevA where
  p : Nat
  t : Nat
  l : Nat
  bu : Nat
  a : Nat
  po : Nat
  gf : Nat
  vd : Nat
  vc : Nat
  o : Option Addr
  o1 : Option Addr
  o2 : Option Addr
  o3 : Option Addr
  c : Nat
  c1 : Nat
  c2 : Nat
  c3 : Nat
structure Dev (w : World) (D : DevA) (R C : Nat) (on : Bool) (L : Int) (d : Nat) (u : Bool) (now : Int) (h : Nat) : Prop where
  H : HW w D.p D.t D.l D.bu D.a D.po D.vd D.vc now
  T : TB w D.t R C on L
  Li : LB w D.l D.o 0 D.c 0 (fun _ => 0) (fun _ => false) false
  A : AB w D.bu h
  I : IB w D.a d u
  P : PB w D.po D.gf 0 0
  F : FB w D.gf D.o1 0 D.c1 0
  G : FB w D.vd D.o2 0 D.c2 0
  V : FB w D.vc D.o3 0 D.c3 0
  ap : D.l < D.t ∧ D.t < D.bu ∧ D.bu < D.a ∧ D.a < D.gf ∧ D.gf < D.po ∧ D.po < D.vd ∧ D.vd < D.vc ∧ D.vc < D.p
/-- Any of the devices' blocks. -/
def DevA.has (D : DevA) (k : Nat) : Prop := D.l ≤ k ∧ k ≤ D.p
section
variable {w w' : World} {D : DevA} {R C d h : Nat} {on u : Bool} {L now : Int}
theorem Dev.only {S : Nat → Prop} (x : Dev w D R C on L d u now h) (ho : Only S w w') (hs : ∀ k, S k → k < D.l ∨ D.p < k) : Dev w' D R C on L d u now h := by
  obtain ⟨q1, q2, q3, q4, q5, q6, q7, q8⟩ := x.ap
  have n : ∀ k, D.l ≤ k → k ≤ D.p → ¬ S k := fun k h1 h2 h3 => by have := hs k h3; omega
  exact ⟨Blk.only x.H ho (n _ (by omega) (by omega)), Blk.only x.T ho (n _ (by omega) (by omega)), Blk.only x.Li ho (n _ (by omega) (by omega)), Blk.only x.A ho (n _ (by omega) (by omega)), Blk.only x.I ho (n _ (by omega) (by omega)),
    Blk.only x.P ho (n _ (by omega) (by omega)), Blk.only x.F ho (n _ (by omega) (by omega)), Blk.only x.G ho (n _ (by omega) (by omega)), Blk.only x.V ho (n _ (by omega) (by omega)), x.ap⟩
theorem Dev.low (x : Dev w D R C on L d u now h) (hb : Below w.heap.size w w') : Dev w' D R C on L d u now h :=
  ⟨Blk.below x.H hb (Blk.lt x.H), Blk.below x.T hb (Blk.lt x.T), Blk.below x.Li hb (Blk.lt x.Li), Blk.below x.A hb (Blk.lt x.A), Blk.below x.I hb (Blk.lt x.I), Blk.below x.P hb (Blk.lt x.P), Blk.below x.F hb (Blk.lt x.F), Blk.below x.G hb (Blk.lt x.G), Blk.below x.V hb (Blk.lt x.V), x.ap⟩
theorem Dev.drew (x : Dev w D R C on L d u now h) : Dev w.drew D R C on L d u now h := ⟨x.H, x.T, x.Li, x.A, x.I, x.P, x.F, x.G, x.V, x.ap⟩
theorem Dev.setT {R' C' : Nat} {on' : Bool} {L' : Int} (x : Dev w D R C on L d u now h) (y : TB w' D.t R' C' on' L') (ho : Only (fun k => k = D.t) w w') : Dev w' D R' C' on' L' d u now h := by
  obtain ⟨q1, q2, q3, q4, q5, q6, q7, q8⟩ := x.ap
  exact ⟨Blk.only x.H ho (by omega), y, Blk.only x.Li ho (by omega), Blk.only x.A ho (by omega), Blk.only x.I ho (by omega), Blk.only x.P ho (by omega), Blk.only x.F ho (by omega), Blk.only x.G ho (by omega), Blk.only x.V ho (by omega), x.ap⟩
theorem Dev.setLi {o' : Option Addr} (x : Dev w D R C on L d u now h) (y : LB w' D.l D.o 0 D.c 0 (fun _ => 0) (fun _ => false) false) (ho : Only (fun k => k = D.l) w w') : Dev w' D R C on L d u now h := by
  obtain ⟨q1, q2, q3, q4, q5, q6, q7, q8⟩ := x.ap
  exact ⟨Blk.only x.H ho (by omega), Blk.only x.T ho (by omega), y, Blk.only x.A ho (by omega), Blk.only x.I ho (by omega), Blk.only x.P ho (by omega), Blk.only x.F ho (by omega), Blk.only x.G ho (by omega), Blk.only x.V ho (by omega), x.ap⟩
theorem Dev.setH {now' : Int} (x : Dev w D R C on L d u now h) (y : HW w' D.p D.t D.l D.bu D.a D.po D.vd D.vc now') (ho : Only (fun k => k = D.p) w w') : Dev w' D R C on L d u now' h := by
  obtain ⟨q1, q2, q3, q4, q5, q6, q7, q8⟩ := x.ap
  exact ⟨y, Blk.only x.T ho (by omega), Blk.only x.Li ho (by omega), Blk.only x.A ho (by omega), Blk.only x.I ho (by omega), Blk.only x.P ho (by omega), Blk.only x.F ho (by omega), Blk.only x.G ho (by omega), Blk.only x.V ho (by omega), x.ap⟩
theorem Dev.cells (x : Dev w D R C on L d u now h) : w.cell? ⟨D.p, 0, none⟩ = some (.pointer (some ⟨D.t, 0, none⟩)) ∧ w.cell? ⟨D.p, 1, none⟩ = some (.pointer (some ⟨D.l, 0, none⟩)) ∧ w.cell? ⟨D.p, 2, none⟩ = some (.pointer (some ⟨D.bu, 0, none⟩)) ∧ w.cell? ⟨D.p, 3, none⟩ = some (.pointer (some ⟨D.a, 0, none⟩)) ∧
    w.cell? ⟨D.p, 4, none⟩ = some (.pointer (some ⟨D.po, 0, none⟩)) ∧ w.cell? ⟨D.p, 5, none⟩ = some (.pointer (some ⟨D.vd, 0, none⟩)) ∧ w.cell? ⟨D.p, 6, none⟩ = some (.pointer (some ⟨D.vc, 0, none⟩)) ∧ w.cell? ⟨D.p, 7, none⟩ = some (.int .i64 now) :=
  ⟨Blk.cell x.H 0, Blk.cell x.H 1, Blk.cell x.H 2, Blk.cell x.H 3, Blk.cell x.H 4, Blk.cell x.H 5, Blk.cell x.H 6, Blk.cell x.H 7⟩
end
theorem devNew_calls (w : World) :
    Calls Tryz.prog 12 #[.agg #[.slice none 0 0, .slice none 0 0, .slice none 0 0], .slice none 0 0] w fun e w' => ∃ D, e = .returned (.tuple #[.pointer (some ⟨D.p, 0, none⟩), .agg (fltA (0, 0))]) ∧ Dev w' D 0 0 false 3072 0 false 0 0 ∧ w.heap.size ≤ D.l ∧ Below w.heap.size w w' := by
  refine (hdNew_ok none 0 0 (fun _ => 0) (fun _ => 0) (fun _ => false) w (fun i hi => by omega) rfl (by omega)).mono ?_
  rintro e w1 ⟨p, t, l, bu, a, po, gf, vd, vc, o', c', o1, c1, o2, c2, o3, c3, rfl, hH, hT, hL, hE1, hA, hI, hP, hF, hG, hQ, ⟨hl0, l1, l2, l3, l4, l5, l6, l7, l8⟩, hb1⟩
  exact ⟨⟨p, t, l, bu, a, po, gf, vd, vc, o', o1, o2, o3, c', c1, c2, c3⟩, rfl, ⟨hH, hT, hL, hA, hI, hP, hF, hG, hQ, ⟨l1, l2, l3, l4, l5, l6, l7, l8⟩⟩, hl0, hb1⟩
end Go.Proofs.YtplobngbjpgcgaaGreatDoor
end
section
/-
  timer, as far as TopTicks goes; hard: Write, To, Status.
-/
namespace Go.Proofs.YtplobngbjpgcgaaGreatDoor
set_option linter.unusedSimpArgs false
set_option linter.unusedVariables false
set_option maxRecDepth 10000
open Go.RowKit Pl
end Go.Proofs.YtplobngbjpgcgaaGreatDoor
end
section
/-
  hard, as far as TopMapped goes: any Write behind New, To while the timer stands still.
-/
namespace Go.Proofs.YtplobngbjpgcgaaGreatDoor
set_option linter.unusedSimpArgs false
set_option linter.unusedVariables false
set_option maxRecDepth 10000
open Go.RowKit Pl
set_option maxRecDepth 100000 in
set_option maxHeartbeats 4000000 in
/-- On to a stamp, the timer off. -/
theorem hdToC (D : DevA) (h : Nat) (now stamp : Int) (w : World) (h1 : 0 ≤ now) (h2 : stamp ≤ 1000000) (hn : now ≤ stamp) (hD : Dev w D 0 0 false 3072 0 false now h) :
    Calls Tryz.prog 191 #[.pointer (some ⟨D.p, 0, none⟩), .int .i64 stamp] w fun e w' => e = .returned (.tuple #[]) ∧ Dev w' D 0 0 false 3072 0 false stamp h ∧ Only D.has w w' := by
  obtain ⟨c0, c1, c2, c3, c4, c5, c6, c7⟩ := hD.cells
  have hS : ∀ k, (D.l ≤ k ∧ k ≤ D.p) → D.has k := fun k h => h
  by_cases h0 : now < stamp
  · have i1 : (decide (stamp ≤ now)) = false := by rw [decide_eq_false_iff_not]; omega
    obtain ⟨dl, hdl⟩ : ∃ x, stamp - now = x := ⟨_, rfl⟩
    have i2 : IntKind.i64.wrap dl = dl := by rw [IntKind.wrap_i64]; omega
    have hB : Only D.has w w := Only.refl _ _
    have ht := fun W (h : TB W D.t 0 0 false 3072) => tmOff_calls D.t 0 0 dl W h
    clear c1 c2 c3 c4 c5 c6
    go_enter Tryz.func191, Tryz.ntmps191
    go_wp2_with fail
    refine wp_region_held_drew (S := fun W => W.cell? ⟨D.p, 0, none⟩ = some (.pointer (some ⟨D.t, 0, none⟩)) ∧ W.cell? ⟨D.p, 7, none⟩ = some (.int .i64 now) ∧ Dev W D 0 0 false 3072 0 false now h ∧ Only D.has w W) (by kernel_rfl) ⟨(by first | exact c0.drew | exact c0 | exact Below.drew c0), (by first | exact c7.drew | exact c7 | exact Below.drew c7), (by first | exact hD.drew | exact hD | exact Below.drew hD), (by first | exact hB.drew | exact hB | exact Below.drew hB)⟩ (fun hS0 => ?_)
    clear c0 c7 hD hB
    change wpAnyH _ _ _ _ _ 12 #[false, false, false, false, false, false, false, false, false, false, false, false] _ _
    generalize w.drew = v0 at *
    refine wpAnyH_take (i := 0) (v := ?_) rfl (by kernel_rfl) (by kernel_rfl) (by kernel_rfl) (fun _ _ _ h => h) (Or.inl ⟨by rfl, ?_⟩) hS0 ?_
    rotate_left
    · (intro w hSw; (try dsimp only at hSw); go_simp; try with_reducible rfl)
    simp only [List.getElem_toArray, List.getElem_cons_zero, List.getElem_cons_succ, Act.put, List.setIfInBounds_toArray, List.set_cons_zero, List.set_cons_succ]
    refine wpAnyH_take (i := 1) (v := ?_) rfl (by kernel_rfl) (by kernel_rfl) (by kernel_rfl) (fun _ _ _ h => h) (Or.inl ⟨by rfl, ?_⟩) hS0 ?_
    rotate_left
    · (intro w hSw; (try dsimp only at hSw); go_simp; try with_reducible rfl)
    simp only [List.getElem_toArray, List.getElem_cons_zero, List.getElem_cons_succ, Act.put, List.setIfInBounds_toArray, List.set_cons_zero, List.set_cons_succ]
    refine wpAnyH_take (i := 2) (v := ?_) rfl (by kernel_rfl) (by kernel_rfl) (by kernel_rfl) (fun _ _ _ h => h) (Or.inl ⟨by rfl, ?_⟩) hS0 ?_
    rotate_left
    · (intro w hSw; (try dsimp only at hSw); go_simp; try with_reducible rfl)
    simp only [List.getElem_toArray, List.getElem_cons_zero, List.getElem_cons_succ, Act.put, List.setIfInBounds_toArray, List.set_cons_zero, List.set_cons_succ]
    refine wpAnyH_take (i := 3) (v := ?_) rfl (by kernel_rfl) (by kernel_rfl) (by kernel_rfl) (fun _ _ _ h => h) (Or.inl ⟨by rfl, ?_⟩) hS0 ?_
    rotate_left
    · (intro w hSw; (try dsimp only at hSw); go_simp; try with_reducible rfl)
    simp only [List.getElem_toArray, List.getElem_cons_zero, List.getElem_cons_succ, Act.put, List.setIfInBounds_toArray, List.set_cons_zero, List.set_cons_succ]
    refine wpAnyH_take (i := 4) (v := ?_) rfl (by kernel_rfl) (by kernel_rfl) (by kernel_rfl) (fun _ _ _ h => h) (Or.inl ⟨by rfl, ?_⟩) hS0 ?_
    rotate_left
    · (intro w hSw; (try dsimp only at hSw); go_simp; try with_reducible rfl)
    simp only [List.getElem_toArray, List.getElem_cons_zero, List.getElem_cons_succ, Act.put, List.setIfInBounds_toArray, List.set_cons_zero, List.set_cons_succ]
    refine wpAnyH_take (i := 5) (v := ?_) rfl (by kernel_rfl) (by kernel_rfl) (by kernel_rfl) (fun _ _ _ h => h) (Or.inl ⟨by rfl, ?_⟩) hS0 ?_
    rotate_left
    · (intro w hSw; (try dsimp only at hSw); go_simp; try with_reducible rfl)
    simp only [List.getElem_toArray, List.getElem_cons_zero, List.getElem_cons_succ, Act.put, List.setIfInBounds_toArray, List.set_cons_zero, List.set_cons_succ]
    refine wpAnyH_take (i := 6) (v := ?_) rfl (by kernel_rfl) (by kernel_rfl) (by kernel_rfl) (fun _ _ _ h => h) (Or.inl ⟨by rfl, ?_⟩) hS0 ?_
    rotate_left
    · (intro w hSw; (try dsimp only at hSw); go_simp; try with_reducible rfl)
    simp only [List.getElem_toArray, List.getElem_cons_zero, List.getElem_cons_succ, Act.put, List.setIfInBounds_toArray, List.set_cons_zero, List.set_cons_succ]
    refine wpAnyH_take (i := 7) (v := ?_) rfl (by kernel_rfl) (by kernel_rfl) (by kernel_rfl) (fun _ _ _ h => h) (Or.inl ⟨by rfl, ?_⟩) hS0 ?_
    rotate_left
    · (intro w hSw; (try dsimp only at hSw); go_simp; try with_reducible rfl)
    simp only [List.getElem_toArray, List.getElem_cons_zero, List.getElem_cons_succ, Act.put, List.setIfInBounds_toArray, List.set_cons_zero, List.set_cons_succ]
    refine wpAnyH_take (i := 8) (v := ?_) rfl (by kernel_rfl) (by kernel_rfl) (by kernel_rfl) (fun _ _ _ h => h) (Or.inl ⟨by rfl, ?_⟩) hS0 ?_
    rotate_left
    · (intro w hSw; (try dsimp only at hSw); go_simp; try with_reducible rfl)
    simp only [List.getElem_toArray, List.getElem_cons_zero, List.getElem_cons_succ, Act.put, List.setIfInBounds_toArray, List.set_cons_zero, List.set_cons_succ]
    refine wpAnyH_take (i := 9) (v := ?_) rfl (by kernel_rfl) (by kernel_rfl) (by kernel_rfl) (fun _ _ _ h => h) (Or.inl ⟨by rfl, ?_⟩) hS0 ?_
    rotate_left
    · (intro w hSw; (try dsimp only at hSw); go_simp; try with_reducible rfl)
    simp only [List.getElem_toArray, List.getElem_cons_zero, List.getElem_cons_succ, Act.put, List.setIfInBounds_toArray, List.set_cons_zero, List.set_cons_succ]
    refine wpAnyH_ready (rs := [10]) (by kernel_rfl) (by simp) ?_
    refine AllReadyH.cons rfl (fun K hK => ?_) AllReadyH.nil
    go_simp
    refine (ht _ (Dev.T hS0.2.2.1)).mono ?_
    rintro e w' ⟨rfl, rfl⟩
    (try go_simp)
    refine hK.out _ _ hS0 (fun _ => ?_)
    clear hK K
    simp only [List.getElem_toArray, List.getElem_cons_zero, List.getElem_cons_succ, Act.put, List.setIfInBounds_toArray, List.set_cons_zero, List.set_cons_succ]
    refine wpAnyH_take (i := 11) (v := ?_) rfl (by kernel_rfl) (by kernel_rfl) (by kernel_rfl) (fun _ _ _ h => h) (Or.inl ⟨by rfl, ?_⟩) hS0 ?_
    rotate_left
    · (intro w hSw; (try dsimp only at hSw); go_simp; try with_reducible rfl)
    simp only [List.getElem_toArray, List.getElem_cons_zero, List.getElem_cons_succ, Act.put, List.setIfInBounds_toArray, List.set_cons_zero, List.set_cons_succ]
    refine wpAnyH_done (by kernel_rfl) ?_ _
    have c0 := hS0.1
    have c7 := hS0.2.1
    have hD := hS0.2.2.1
    have hB := hS0.2.2.2
    clear hS0
    generalize v0 = w1 at *
    have d1 : w1.cell? ⟨D.p, 1, none⟩ = some (.pointer (some ⟨D.l, 0, none⟩)) := Blk.cell hD.H 1
    clear hdl
    go_wp2_with fail
    refine (lnTo_n D.l D.o 0 D.c 0 (fun _ => 0) (fun _ => 0) (fun _ => false) false stamp w1 ⟨by omega, fun i hi => by omega⟩ (Nat.zero_le _) hD.Li (fun i hi => by omega) (fun h => by omega)).mono ?_
    rintro e w2 ⟨⟨v, rfl⟩, hL2, ho2⟩
    have hM := hD.setLi (o' := none) hL2 ho2
    have hap := hM.ap
    have hMB := hB.trans (ho2.mono (fun k _ e => hS k (by have e : k = D.l := e; omega)))
    have f7 : w2.frozen? ⟨D.p, 7, none⟩ = false := Blk.frozen hM.H 7
    have e7 : w2.cell? ⟨D.p, 7, none⟩ = some (.int .i64 now) := Blk.cell hM.H 7
    go_wp2_with fail
    go_end0
    exact ⟨rfl, hM.setH (Blk.set_ hM.H 7 (.int .i64 stamp)) (Only.setCell (S := fun k => k = D.p) (Only.refl _ _) ⟨D.p, 7, none⟩ rfl _), Only.setCell hMB ⟨D.p, 7, none⟩ (hS _ ⟨by show D.l ≤ D.p; omega, Nat.le_refl _⟩) _⟩
  · obtain rfl : now = stamp := by omega
    clear h0 hn c0 c1 c2 c3 c4 c5 c6
    go_enter Tryz.func191, Tryz.ntmps191
    go_wp2_with fail
    exact bodyPost_ret (results_none rfl _ _ _) rfl ⟨rfl, hD, Only.refl _ _⟩
end Go.Proofs.YtplobngbjpgcgaaGreatDoor
end
