/-
  All devices as one: what they hold.
-/
import Derived.Test.YtemfdkoipeedeaaHard2
namespace Go.Proofs.Ytemfdkoipeedeaa
set_option linter.unusedSimpArgs false
set_option linter.unusedVariables false
set_option maxRecDepth 10000
open Go.RowKit Pl
/-- Where they lie. -/
structure DevA where
  p : Nat
  t : Nat
  l : Nat
  bu : Nat
  a : Nat
  po : Nat
  gf : Nat
  vd : Nat
  vc : Nat
  o : Option Addr
  o1 : Option Addr
  o2 : Option Addr
  o3 : Option Addr
  c : Nat
  c1 : Nat
  c2 : Nat
  c3 : Nat
structure Dev (w : World) (D : DevA) (R C : Nat) (on : Bool) (L : Int) (d : Nat) (u : Bool) (now : Int) (h : Nat) : Prop where
  H : HW w D.p D.t D.l D.bu D.a D.po D.vd D.vc now
  T : TB w D.t R C on L
  Li : LB w D.l D.o 0 D.c 0 (fun _ => 0) (fun _ => false) false
  A : AB w D.bu h
  I : IB w D.a d u
  P : PB w D.po D.gf 0 0
  F : FB w D.gf D.o1 0 D.c1 0
  G : FB w D.vd D.o2 0 D.c2 0
  V : FB w D.vc D.o3 0 D.c3 0
  ap : D.l < D.t ∧ D.t < D.bu ∧ D.bu < D.a ∧ D.a < D.gf ∧ D.gf < D.po ∧ D.po < D.vd ∧ D.vd < D.vc ∧ D.vc < D.p
/-- Any of the devices' blocks. -/
def DevA.has (D : DevA) (k : Nat) : Prop := D.l ≤ k ∧ k ≤ D.p
section
variable {w w' : World} {D : DevA} {R C d h : Nat} {on u : Bool} {L now : Int}
theorem Dev.only {S : Nat → Prop} (x : Dev w D R C on L d u now h) (ho : Only S w w') (hs : ∀ k, S k → k < D.l ∨ D.p < k) : Dev w' D R C on L d u now h := by
  obtain ⟨q1, q2, q3, q4, q5, q6, q7, q8⟩ := x.ap
  have n : ∀ k, D.l ≤ k → k ≤ D.p → ¬ S k := fun k h1 h2 h3 => by have := hs k h3; omega
  exact ⟨Blk.only x.H ho (n _ (by omega) (by omega)), Blk.only x.T ho (n _ (by omega) (by omega)), Blk.only x.Li ho (n _ (by omega) (by omega)), Blk.only x.A ho (n _ (by omega) (by omega)), Blk.only x.I ho (n _ (by omega) (by omega)),
    Blk.only x.P ho (n _ (by omega) (by omega)), Blk.only x.F ho (n _ (by omega) (by omega)), Blk.only x.G ho (n _ (by omega) (by omega)), Blk.only x.V ho (n _ (by omega) (by omega)), x.ap⟩
theorem Dev.low (x : Dev w D R C on L d u now h) (hb : Below w.heap.size w w') : Dev w' D R C on L d u now h :=
  ⟨Blk.below x.H hb (Blk.lt x.H), Blk.below x.T hb (Blk.lt x.T), Blk.below x.Li hb (Blk.lt x.Li), Blk.below x.A hb (Blk.lt x.A), Blk.below x.I hb (Blk.lt x.I), Blk.below x.P hb (Blk.lt x.P), Blk.below x.F hb (Blk.lt x.F), Blk.below x.G hb (Blk.lt x.G), Blk.below x.V hb (Blk.lt x.V), x.ap⟩
theorem Dev.drew (x : Dev w D R C on L d u now h) : Dev w.drew D R C on L d u now h := ⟨x.H, x.T, x.Li, x.A, x.I, x.P, x.F, x.G, x.V, x.ap⟩
theorem Dev.setT {R' C' : Nat} {on' : Bool} {L' : Int} (x : Dev w D R C on L d u now h) (y : TB w' D.t R' C' on' L') (ho : Only (fun k => k = D.t) w w') : Dev w' D R' C' on' L' d u now h := by
  obtain ⟨q1, q2, q3, q4, q5, q6, q7, q8⟩ := x.ap
  exact ⟨Blk.only x.H ho (by omega), y, Blk.only x.Li ho (by omega), Blk.only x.A ho (by omega), Blk.only x.I ho (by omega), Blk.only x.P ho (by omega), Blk.only x.F ho (by omega), Blk.only x.G ho (by omega), Blk.only x.V ho (by omega), x.ap⟩
theorem Dev.setI {d' : Nat} {u' : Bool} (x : Dev w D R C on L d u now h) (y : IB w' D.a d' u') (ho : Only (fun k => k = D.a) w w') : Dev w' D R C on L d' u' now h := by
  obtain ⟨q1, q2, q3, q4, q5, q6, q7, q8⟩ := x.ap
  exact ⟨Blk.only x.H ho (by omega), Blk.only x.T ho (by omega), Blk.only x.Li ho (by omega), Blk.only x.A ho (by omega), y, Blk.only x.P ho (by omega), Blk.only x.F ho (by omega), Blk.only x.G ho (by omega), Blk.only x.V ho (by omega), x.ap⟩
theorem Dev.setA {h' : Nat} (x : Dev w D R C on L d u now h) (y : AB w' D.bu h') (ho : Only (fun k => k = D.bu) w w') : Dev w' D R C on L d u now h' := by
  obtain ⟨q1, q2, q3, q4, q5, q6, q7, q8⟩ := x.ap
  exact ⟨Blk.only x.H ho (by omega), Blk.only x.T ho (by omega), Blk.only x.Li ho (by omega), y, Blk.only x.I ho (by omega), Blk.only x.P ho (by omega), Blk.only x.F ho (by omega), Blk.only x.G ho (by omega), Blk.only x.V ho (by omega), x.ap⟩
theorem Dev.setLi {o' : Option Addr} (x : Dev w D R C on L d u now h) (y : LB w' D.l D.o 0 D.c 0 (fun _ => 0) (fun _ => false) false) (ho : Only (fun k => k = D.l) w w') : Dev w' D R C on L d u now h := by
  obtain ⟨q1, q2, q3, q4, q5, q6, q7, q8⟩ := x.ap
  exact ⟨Blk.only x.H ho (by omega), Blk.only x.T ho (by omega), y, Blk.only x.A ho (by omega), Blk.only x.I ho (by omega), Blk.only x.P ho (by omega), Blk.only x.F ho (by omega), Blk.only x.G ho (by omega), Blk.only x.V ho (by omega), x.ap⟩
theorem Dev.setH {now' : Int} (x : Dev w D R C on L d u now h) (y : HW w' D.p D.t D.l D.bu D.a D.po D.vd D.vc now') (ho : Only (fun k => k = D.p) w w') : Dev w' D R C on L d u now' h := by
  obtain ⟨q1, q2, q3, q4, q5, q6, q7, q8⟩ := x.ap
  exact ⟨y, Blk.only x.T ho (by omega), Blk.only x.Li ho (by omega), Blk.only x.A ho (by omega), Blk.only x.I ho (by omega), Blk.only x.P ho (by omega), Blk.only x.F ho (by omega), Blk.only x.G ho (by omega), Blk.only x.V ho (by omega), x.ap⟩
theorem Dev.cells (x : Dev w D R C on L d u now h) : w.cell? ⟨D.p, 0, none⟩ = some (.pointer (some ⟨D.t, 0, none⟩)) ∧ w.cell? ⟨D.p, 1, none⟩ = some (.pointer (some ⟨D.l, 0, none⟩)) ∧ w.cell? ⟨D.p, 2, none⟩ = some (.pointer (some ⟨D.bu, 0, none⟩)) ∧ w.cell? ⟨D.p, 3, none⟩ = some (.pointer (some ⟨D.a, 0, none⟩)) ∧
    w.cell? ⟨D.p, 4, none⟩ = some (.pointer (some ⟨D.po, 0, none⟩)) ∧ w.cell? ⟨D.p, 5, none⟩ = some (.pointer (some ⟨D.vd, 0, none⟩)) ∧ w.cell? ⟨D.p, 6, none⟩ = some (.pointer (some ⟨D.vc, 0, none⟩)) ∧ w.cell? ⟨D.p, 7, none⟩ = some (.int .i64 now) :=
  ⟨Blk.cell x.H 0, Blk.cell x.H 1, Blk.cell x.H 2, Blk.cell x.H 3, Blk.cell x.H 4, Blk.cell x.H 5, Blk.cell x.H 6, Blk.cell x.H 7⟩
end
theorem devNew_calls (w : World) :
    Calls Try.prog 6 #[.agg #[.slice none 0 0, .slice none 0 0, .slice none 0 0], .slice none 0 0] w fun e w' => ∃ D, e = .returned (.tuple #[.pointer (some ⟨D.p, 0, none⟩), .agg (fltA (0, 0))]) ∧ Dev w' D 0 0 false 3072 0 false 0 0 ∧ w.heap.size ≤ D.l ∧ Below w.heap.size w w' := by
  refine (hdNew_ok none 0 0 (fun _ => 0) (fun _ => 0) (fun _ => false) w (fun i hi => by omega) rfl (by omega)).mono ?_
  rintro e w1 ⟨p, t, l, bu, a, po, gf, vd, vc, o', c', o1, c1, o2, c2, o3, c3, rfl, hH, hT, hL, hE1, hA, hI, hP, hF, hG, hQ, ⟨hl0, l1, l2, l3, l4, l5, l6, l7, l8⟩, hb1⟩
  exact ⟨⟨p, t, l, bu, a, po, gf, vd, vc, o', o1, o2, o3, c', c1, c2, c3⟩, rfl, ⟨hH, hT, hL, hA, hI, hP, hF, hG, hQ, ⟨l1, l2, l3, l4, l5, l6, l7, l8⟩⟩, hl0, hb1⟩
end Go.Proofs.Ytemfdkoipeedeaa
