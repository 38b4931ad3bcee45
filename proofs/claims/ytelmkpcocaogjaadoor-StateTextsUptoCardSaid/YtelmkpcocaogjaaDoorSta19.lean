/-
  gannetref25: Read.
-/
import Derived.Test.YtelmkpcocaogjaaDoorSta18
import Derived.Deep.DeepCutAuto
namespace Go.Proofs.YtelmkpcocaogjaaDoor
set_option linter.unusedSimpArgs false
set_option linter.unusedVariables false
open Go.RowKit Pl

theorem errOf_eq' (r : Option Nat) : errOf r = .tuple #[.int .u8 ((r.getD 0 : Nat) : Int), .int .i64 (match r with | some _ => 0 | none => 3)] := by cases r <;> rfl
/-- The state, its banks so far. -/
def skQ (V : Nat → Nat) (k i : Nat) : Value := if i = 5 then .int .u16 (V 5 : Int) else if i = 15 then .bool false else .int .u8 ((if i < 6 + k then V i else 0 : Nat) : Int)
theorem skQ_step (V : Nat → Nat) (k : Nat) (hk : k < 8) : ∀ i, i < 16 → updv (skQ V k) (6 + k) (.int .u8 (V (6 + k) : Int)) i = skQ V (k + 1) i := fun i _ => by
  unfold updv skQ
  by_cases e : i = 6 + k
  · subst e; rw [if_pos rfl, if_neg (by omega), if_neg (by omega), if_pos (by omega)]
  · rw [if_neg e]
    by_cases h5 : i = 5
    · rw [if_pos h5, if_pos h5]
    · rw [if_neg h5, if_neg h5]
      by_cases h15 : i = 15
      · rw [if_pos h15, if_pos h15]
      · rw [if_neg h15, if_neg h15]
        by_cases h : i < 6 + k
        · rw [if_pos h, if_pos (by omega)]
        · rw [if_neg h, if_neg (by omega)]
theorem posS_bank (l : List UInt8) (k : Nat) (hk : k < 8) : posS l (6 + k) = twoP l (41 + 3 * k) := by
  match k, hk with
  | 0, _ | 1, _ | 2, _ | 3, _ | 4, _ | 5, _ | 6, _ | 7, _ => rfl
/-- What a line is as registers, by its places. -/
def rpV (l : List UInt8) : Value := if l.length = 74 ∧ tS (posS l) = l then .tuple #[.agg (stA (posS l)), .int .i64 0] else .tuple #[.agg zst, .int .i64 3]
set_option maxRecDepth 100000 in
set_option maxHeartbeats 4000000 in
theorem rRead_calls (l : List UInt8) (w : World) (hl : l.length ≤ 1500000) :
    Calls Tryd.prog 10 #[.string (str l)] w fun e w' => e = .returned (rpV l) ∧ Below w.heap.size w w' := by
  have hZ : Blk (w.alloc (.cells #[.int .u8 0, .int .u8 0, .int .u8 0, .int .u8 0, .int .u8 0, .int .u16 0, .int .u8 0, .int .u8 0, .int .u8 0, .int .u8 0, .int .u8 0, .int .u8 0, .int .u8 0, .int .u8 0, .int .u8 0, .bool false] 25)) w.heap.size 25 zst := Blk.new _ _ _
  have hb : Below w.heap.size w (w.alloc (.cells #[.int .u8 0, .int .u8 0, .int .u8 0, .int .u8 0, .int .u8 0, .int .u16 0, .int .u8 0, .int .u8 0, .int .u8 0, .int .u8 0, .int .u8 0, .int .u8 0, .int .u8 0, .int .u8 0, .int .u8 0, .bool false] 25)) := Bl.alloc (Below.refl _ _) _
  by_cases h74 : l.length = 74
  · have hok := posS_ok l
    have hrd : rpV l = if tS (posS l) = l then .tuple #[.agg (stA (posS l)), .int .i64 0] else .tuple #[.agg zst, .int .i64 3] := by
      unfold rpV
      by_cases ht : tS (posS l) = l
      · rw [if_pos ⟨h74, ht⟩, if_pos ht]
      · rw [if_neg (fun h => ht h.2), if_neg ht]
    obtain ⟨V, hV⟩ : ∃ V, posS l = V := ⟨_, rfl⟩
    rw [hV] at hrd hok
    have hz : (str l).size = 74 := by rw [strn, h74]
    have hT : ∀ (i a : Nat), a + 2 ≤ 74 → V i = twoP l a → ∀ w, Calls Tryd.prog 33 #[.string (str l), .int .i64 (a : Int)] w fun e w' => e = .returned (.int .u8 (V i : Int)) ∧ ∃ n, w' = w.drewN n := fun i a ha hv w => by
      rw [hv]
      exact rTwo_calls l a w h74 ha
    have hT0 := hT 0 2 (by decide) (by rw [← hV]; rfl)
    have hT1 := hT 1 7 (by decide) (by rw [← hV]; rfl)
    have hT2 := hT 2 12 (by decide) (by rw [← hV]; rfl)
    have hT3 := hT 3 17 (by decide) (by rw [← hV]; rfl)
    have HRD := hide hrd
    have hg0 : w.heap.size < w.heap.size + 1 := Nat.lt_succ_self _
    clear hrd
    have hZ0 : Blk ((w.alloc (.cells #[.int .u8 0, .int .u8 0, .int .u8 0, .int .u8 0, .int .u8 0, .int .u16 0, .int .u8 0, .int .u8 0, .int .u8 0, .int .u8 0, .int .u8 0, .int .u8 0, .int .u8 0, .int .u8 0, .int .u8 0, .bool false] 25)).alloc (.cells #[.int .u8 0, .int .u8 0, .int .u8 0, .int .u8 0, .int .u8 0, .int .u16 0, .int .u8 0, .int .u8 0, .int .u8 0, .int .u8 0, .int .u8 0, .int .u8 0, .int .u8 0, .int .u8 0, .int .u8 0, .bool false] 25)) w.heap.size 25 zst := hZ.alloc _
    have hL0 : Blk ((w.alloc (.cells #[.int .u8 0, .int .u8 0, .int .u8 0, .int .u8 0, .int .u8 0, .int .u16 0, .int .u8 0, .int .u8 0, .int .u8 0, .int .u8 0, .int .u8 0, .int .u8 0, .int .u8 0, .int .u8 0, .int .u8 0, .bool false] 25)).alloc (.cells #[.int .u8 0, .int .u8 0, .int .u8 0, .int .u8 0, .int .u8 0, .int .u16 0, .int .u8 0, .int .u8 0, .int .u8 0, .int .u8 0, .int .u8 0, .int .u8 0, .int .u8 0, .int .u8 0, .int .u8 0, .bool false] 25)) (w.heap.size + 1) 25 #[.int .u8 0, .int .u8 0, .int .u8 0, .int .u8 0, .int .u8 0, .int .u16 0, .int .u8 0, .int .u8 0, .int .u8 0, .int .u8 0, .int .u8 0, .int .u8 0, .int .u8 0, .int .u8 0, .int .u8 0, .bool false] := Blk.newAt (by simp)
    have hb0 : Below w.heap.size w ((w.alloc (.cells #[.int .u8 0, .int .u8 0, .int .u8 0, .int .u8 0, .int .u8 0, .int .u16 0, .int .u8 0, .int .u8 0, .int .u8 0, .int .u8 0, .int .u8 0, .int .u8 0, .int .u8 0, .int .u8 0, .int .u8 0, .bool false] 25)).alloc (.cells #[.int .u8 0, .int .u8 0, .int .u8 0, .int .u8 0, .int .u8 0, .int .u16 0, .int .u8 0, .int .u8 0, .int .u8 0, .int .u8 0, .int .u8 0, .int .u8 0, .int .u8 0, .int .u8 0, .int .u8 0, .bool false] 25)) := Bl.alloc hb _
    go_enter Tryd.func10, Tryd.ntmps10
    go_upto_region 4 with fail
    generalize (w.alloc (.cells #[.int .u8 0, .int .u8 0, .int .u8 0, .int .u8 0, .int .u8 0, .int .u16 0, .int .u8 0, .int .u8 0, .int .u8 0, .int .u8 0, .int .u8 0, .int .u8 0, .int .u8 0, .int .u8 0, .int .u8 0, .bool false] 25)).alloc (.cells #[.int .u8 0, .int .u8 0, .int .u8 0, .int .u8 0, .int .u8 0, .int .u16 0, .int .u8 0, .int .u8 0, .int .u8 0, .int .u8 0, .int .u8 0, .int .u8 0, .int .u8 0, .int .u8 0, .int .u8 0, .bool false] 25) = w0 at *
    obtain ⟨gs, hgs⟩ : ∃ x, w.heap.size + 1 = x := ⟨_, rfl⟩
    rw [hgs] at hL0 hg0 ⊢
    clear hgs hZ hb
    have c0 : w0.cell? ⟨gs, 0, none⟩ = some (.int .u8 0) := hL0.cell 0
    have f0 : w0.frozen? ⟨gs, 0, none⟩ = false := hL0.frozen 0
    go_wp2_with fail
    refine (hT0 _).mono ?_
    rintro e w' ⟨rfl, n0, rfl⟩
    have hL0d : Blk (w0.drewN n0) gs 25 #[.int .u8 0, .int .u8 0, .int .u8 0, .int .u8 0, .int .u8 0, .int .u16 0, .int .u8 0, .int .u8 0, .int .u8 0, .int .u8 0, .int .u8 0, .int .u8 0, .int .u8 0, .int .u8 0, .int .u8 0, .bool false] := hL0
    have hZ0d : Blk (w0.drewN n0) w.heap.size 25 zst := hZ0
    have hb0d : Below w.heap.size w (w0.drewN n0) := below_drewN hb0 _
    have c0d : (w0.drewN n0).cell? ⟨gs, 0, none⟩ = some (.int .u8 0) := c0
    have f0d : (w0.drewN n0).frozen? ⟨gs, 0, none⟩ = false := f0
    generalize w0.drewN n0 = x0 at *
    have hL1 : Blk (x0.setCell ⟨gs, 0, none⟩ (.int .u8 (V 0 : Int))) gs 25 #[.int .u8 (V 0 : Int), .int .u8 0, .int .u8 0, .int .u8 0, .int .u8 0, .int .u16 0, .int .u8 0, .int .u8 0, .int .u8 0, .int .u8 0, .int .u8 0, .int .u8 0, .int .u8 0, .int .u8 0, .int .u8 0, .bool false] := hL0d.set_ 0 _
    have hZ1 : Blk (x0.setCell ⟨gs, 0, none⟩ (.int .u8 (V 0 : Int))) w.heap.size 25 zst := hZ0d.far (by dsimp only; omega) _
    have hb1 : Below w.heap.size w (x0.setCell ⟨gs, 0, none⟩ (.int .u8 (V 0 : Int))) := hb0d.setCell (by dsimp only; omega) _
    clear hL0 hZ0 hb0 c0 f0 hT0 hL0d hZ0d hb0d
    go_upto_region 5 with fail
    generalize x0.setCell ⟨gs, 0, none⟩ (.int .u8 (V 0 : Int)) = w1 at *
    clear c0d f0d
    have c1 : w1.cell? ⟨gs, 1, none⟩ = some (.int .u8 0) := hL1.cell 1
    have f1 : w1.frozen? ⟨gs, 1, none⟩ = false := hL1.frozen 1
    go_wp2_with fail
    refine (hT1 _).mono ?_
    rintro e w' ⟨rfl, n1, rfl⟩
    have hL1d : Blk (w1.drewN n1) gs 25 #[.int .u8 (V 0 : Int), .int .u8 0, .int .u8 0, .int .u8 0, .int .u8 0, .int .u16 0, .int .u8 0, .int .u8 0, .int .u8 0, .int .u8 0, .int .u8 0, .int .u8 0, .int .u8 0, .int .u8 0, .int .u8 0, .bool false] := hL1
    have hZ1d : Blk (w1.drewN n1) w.heap.size 25 zst := hZ1
    have hb1d : Below w.heap.size w (w1.drewN n1) := below_drewN hb1 _
    have c1d : (w1.drewN n1).cell? ⟨gs, 1, none⟩ = some (.int .u8 0) := c1
    have f1d : (w1.drewN n1).frozen? ⟨gs, 1, none⟩ = false := f1
    generalize w1.drewN n1 = x1 at *
    have hL2 : Blk (x1.setCell ⟨gs, 1, none⟩ (.int .u8 (V 1 : Int))) gs 25 #[.int .u8 (V 0 : Int), .int .u8 (V 1 : Int), .int .u8 0, .int .u8 0, .int .u8 0, .int .u16 0, .int .u8 0, .int .u8 0, .int .u8 0, .int .u8 0, .int .u8 0, .int .u8 0, .int .u8 0, .int .u8 0, .int .u8 0, .bool false] := hL1d.set_ 1 _
    have hZ2 : Blk (x1.setCell ⟨gs, 1, none⟩ (.int .u8 (V 1 : Int))) w.heap.size 25 zst := hZ1d.far (by dsimp only; omega) _
    have hb2 : Below w.heap.size w (x1.setCell ⟨gs, 1, none⟩ (.int .u8 (V 1 : Int))) := hb1d.setCell (by dsimp only; omega) _
    clear hL1 hZ1 hb1 c1 f1 hT1 hL1d hZ1d hb1d
    go_upto_region 6 with fail
    generalize x1.setCell ⟨gs, 1, none⟩ (.int .u8 (V 1 : Int)) = w2 at *
    clear c1d f1d
    have c2 : w2.cell? ⟨gs, 2, none⟩ = some (.int .u8 0) := hL2.cell 2
    have f2 : w2.frozen? ⟨gs, 2, none⟩ = false := hL2.frozen 2
    go_wp2_with fail
    refine (hT2 _).mono ?_
    rintro e w' ⟨rfl, n2, rfl⟩
    have hL2d : Blk (w2.drewN n2) gs 25 #[.int .u8 (V 0 : Int), .int .u8 (V 1 : Int), .int .u8 0, .int .u8 0, .int .u8 0, .int .u16 0, .int .u8 0, .int .u8 0, .int .u8 0, .int .u8 0, .int .u8 0, .int .u8 0, .int .u8 0, .int .u8 0, .int .u8 0, .bool false] := hL2
    have hZ2d : Blk (w2.drewN n2) w.heap.size 25 zst := hZ2
    have hb2d : Below w.heap.size w (w2.drewN n2) := below_drewN hb2 _
    have c2d : (w2.drewN n2).cell? ⟨gs, 2, none⟩ = some (.int .u8 0) := c2
    have f2d : (w2.drewN n2).frozen? ⟨gs, 2, none⟩ = false := f2
    generalize w2.drewN n2 = x2 at *
    have hL3 : Blk (x2.setCell ⟨gs, 2, none⟩ (.int .u8 (V 2 : Int))) gs 25 #[.int .u8 (V 0 : Int), .int .u8 (V 1 : Int), .int .u8 (V 2 : Int), .int .u8 0, .int .u8 0, .int .u16 0, .int .u8 0, .int .u8 0, .int .u8 0, .int .u8 0, .int .u8 0, .int .u8 0, .int .u8 0, .int .u8 0, .int .u8 0, .bool false] := hL2d.set_ 2 _
    have hZ3 : Blk (x2.setCell ⟨gs, 2, none⟩ (.int .u8 (V 2 : Int))) w.heap.size 25 zst := hZ2d.far (by dsimp only; omega) _
    have hb3 : Below w.heap.size w (x2.setCell ⟨gs, 2, none⟩ (.int .u8 (V 2 : Int))) := hb2d.setCell (by dsimp only; omega) _
    clear hL2 hZ2 hb2 c2 f2 hT2 hL2d hZ2d hb2d
    go_upto_region 7 with fail
    generalize x2.setCell ⟨gs, 2, none⟩ (.int .u8 (V 2 : Int)) = w3 at *
    clear c2d f2d
    have c3 : w3.cell? ⟨gs, 3, none⟩ = some (.int .u8 0) := hL3.cell 3
    have f3 : w3.frozen? ⟨gs, 3, none⟩ = false := hL3.frozen 3
    go_wp2_with fail
    refine (hT3 _).mono ?_
    rintro e w' ⟨rfl, n3, rfl⟩
    have hL3d : Blk (w3.drewN n3) gs 25 #[.int .u8 (V 0 : Int), .int .u8 (V 1 : Int), .int .u8 (V 2 : Int), .int .u8 0, .int .u8 0, .int .u16 0, .int .u8 0, .int .u8 0, .int .u8 0, .int .u8 0, .int .u8 0, .int .u8 0, .int .u8 0, .int .u8 0, .int .u8 0, .bool false] := hL3
    have hZ3d : Blk (w3.drewN n3) w.heap.size 25 zst := hZ3
    have hb3d : Below w.heap.size w (w3.drewN n3) := below_drewN hb3 _
    have c3d : (w3.drewN n3).cell? ⟨gs, 3, none⟩ = some (.int .u8 0) := c3
    have f3d : (w3.drewN n3).frozen? ⟨gs, 3, none⟩ = false := f3
    generalize w3.drewN n3 = x3 at *
    have hL4 : Blk (x3.setCell ⟨gs, 3, none⟩ (.int .u8 (V 3 : Int))) gs 25 #[.int .u8 (V 0 : Int), .int .u8 (V 1 : Int), .int .u8 (V 2 : Int), .int .u8 (V 3 : Int), .int .u8 0, .int .u16 0, .int .u8 0, .int .u8 0, .int .u8 0, .int .u8 0, .int .u8 0, .int .u8 0, .int .u8 0, .int .u8 0, .int .u8 0, .bool false] := hL3d.set_ 3 _
    have hZ4 : Blk (x3.setCell ⟨gs, 3, none⟩ (.int .u8 (V 3 : Int))) w.heap.size 25 zst := hZ3d.far (by dsimp only; omega) _
    have hb4 : Below w.heap.size w (x3.setCell ⟨gs, 3, none⟩ (.int .u8 (V 3 : Int))) := hb3d.setCell (by dsimp only; omega) _
    clear hL3 hZ3 hb3 c3 f3 hT3 hL3d hZ3d hb3d
    go_upto_region 8 with fail
    generalize x3.setCell ⟨gs, 3, none⟩ (.int .u8 (V 3 : Int)) = w4 at *
    clear c3d f3d
    have hp : ∀ W, Calls Tryd.prog 34 #[.string (str ((l.drop 22).take 8))] W fun e w' => (∃ x : Int, e = .returned (.tuple #[.int .u8 (V 4 : Int), .int .i64 x])) ∧ W = w' := fun W => by
      refine (r20Read_calls (str ((l.drop 22).take 8)) W).mono fun e w' h => ⟨?_, h.2⟩
      have hv : V 4 = (rd ((l.drop 22).take 8)).getD 0 := by rw [← hV]; rfl
      rw [h.1, str_toList, errOf_eq', hv]
      exact ⟨_, rfl⟩
    have hx8 : (str l).extract 22 30 = str ((l.drop 22).take 8) := by rw [str_extract, List.take_drop]
    have HX8 := hide hx8
    have c4 : w4.cell? ⟨gs, 4, none⟩ = some (.int .u8 0) := hL4.cell 4
    have f4 : w4.frozen? ⟨gs, 4, none⟩ = false := hL4.frozen 4
    clear hx8
    go_wp2_with fail
    rw [HX8.out]
    refine (hp _).mono ?_
    rintro e w' ⟨⟨x8, rfl⟩, rfl⟩
    have hL5 : Blk (w4.setCell ⟨gs, 4, none⟩ (.int .u8 (V 4 : Int))) gs 25 #[.int .u8 (V 0 : Int), .int .u8 (V 1 : Int), .int .u8 (V 2 : Int), .int .u8 (V 3 : Int), .int .u8 (V 4 : Int), .int .u16 0, .int .u8 0, .int .u8 0, .int .u8 0, .int .u8 0, .int .u8 0, .int .u8 0, .int .u8 0, .int .u8 0, .int .u8 0, .bool false] := hL4.set_ 4 _
    have hZ5 : Blk (w4.setCell ⟨gs, 4, none⟩ (.int .u8 (V 4 : Int))) w.heap.size 25 zst := hZ4.far (by dsimp only; omega) _
    have hb5 : Below w.heap.size w (w4.setCell ⟨gs, 4, none⟩ (.int .u8 (V 4 : Int))) := hb4.setCell (by dsimp only; omega) _
    clear hL4 hZ4 hb4 hp HX8
    go_upto_region 9 with fail
    generalize w4.setCell ⟨gs, 4, none⟩ (.int .u8 (V 4 : Int)) = w5 at *
    clear c4 f4
    have c5 : w5.cell? ⟨gs, 5, none⟩ = some (.int .u16 0) := hL5.cell 5
    have f5 : w5.frozen? ⟨gs, 5, none⟩ = false := hL5.frozen 5
    have hTp := fun W => rTwo_calls l 34 W h74 (by decide)
    have hTq := fun W => rTwo_calls l 36 W h74 (by decide)
    have hb34 := twoP_lt l 34
    have hb36 := twoP_lt l 36
    have hV5 : twoP l 34 * 256 + twoP l 36 = V 5 := by rw [← hV]; rfl
    generalize twoP l 34 = t34 at *
    generalize twoP l 36 = t36 at *
    have eM : (t34 : Int) * 256 = ((t34 * 256 : Nat) : Int) := by omega
    have eS : (t34 : Int) * 256 + (t36 : Int) = (V 5 : Int) := by rw [← hV5]; omega
    have HS := hide eS
    clear eM eS
    go_wp2_with fail
    refine (hTp _).mono ?_
    rintro e w' ⟨rfl, n5, rfl⟩
    go_wp2_with fail
    refine (hTq _).mono ?_
    rintro e w' ⟨rfl, n6, rfl⟩
    go_upto_region 10 with fail
    rw [HS.out]
    have hL5d : Blk (w5.drewN (n5 + n6)) gs 25 #[.int .u8 (V 0 : Int), .int .u8 (V 1 : Int), .int .u8 (V 2 : Int), .int .u8 (V 3 : Int), .int .u8 (V 4 : Int), .int .u16 0, .int .u8 0, .int .u8 0, .int .u8 0, .int .u8 0, .int .u8 0, .int .u8 0, .int .u8 0, .int .u8 0, .int .u8 0, .bool false] := hL5
    have hZ5d : Blk (w5.drewN (n5 + n6)) w.heap.size 25 zst := hZ5
    have hb5d : Below w.heap.size w (w5.drewN (n5 + n6)) := below_drewN hb5 _
    generalize w5.drewN (n5 + n6) = x5 at *
    have hL6 : Blk (x5.setCell ⟨gs, 5, none⟩ (.int .u16 (V 5 : Int))) gs 25 #[.int .u8 (V 0 : Int), .int .u8 (V 1 : Int), .int .u8 (V 2 : Int), .int .u8 (V 3 : Int), .int .u8 (V 4 : Int), .int .u16 (V 5 : Int), .int .u8 0, .int .u8 0, .int .u8 0, .int .u8 0, .int .u8 0, .int .u8 0, .int .u8 0, .int .u8 0, .int .u8 0, .bool false] := hL5d.set_ 5 _
    have hZ6 : Blk (x5.setCell ⟨gs, 5, none⟩ (.int .u16 (V 5 : Int))) w.heap.size 25 zst := hZ5d.far (by dsimp only; omega) _
    have hb6 : Below w.heap.size w (x5.setCell ⟨gs, 5, none⟩ (.int .u16 (V 5 : Int))) := hb5d.setCell (by dsimp only; omega) _
    clear hL5 hZ5 hb5 hL5d hZ5d hb5d hTp hTq hV5 HS c5 f5
    generalize x5.setCell ⟨gs, 5, none⟩ (.int .u16 (V 5 : Int)) = w6 at *
    go_wp2_with fail
    go_loopw [5] (fun i wr => ∃ k : Nat, k ≤ 8 ∧ i = .int .i64 (k : Int) ∧ Blk wr w.heap.size 25 zst ∧ Blk wr gs 25 (arr 16 (skQ V k)) ∧ Below w.heap.size w wr) (fun i _ => 8 - (intOf i).toNat)
    case atStart => exact ⟨0, Nat.zero_le _, rfl, hZ6, hL6, hb6⟩
    case round =>
      obtain ⟨k, hk, rfl, hZr, hVr, hbr⟩ := hrel
      clear hZ6 hL6 hb6
      by_cases hlt : k < 8
      · obtain ⟨a, ha⟩ : ∃ a, 41 + 3 * k = a := ⟨_, rfl⟩
        have hTk := fun W => hT (6 + k) a (by omega) (by rw [← hV, ← ha]; exact posS_bank l k hlt) W
        have e1 : (41 : Int) + 3 * (k : Int) = (a : Int) := by omega
        have hlt' : (k : Int) < 8 := by omega
        have c0 : wr.cell? ⟨gs, 6 + k, none⟩ = some (.int .u8 0) := by
          rw [hVr.cell, arr_get 16 _ (6 + k) (by omega)]
          unfold skQ
          rw [if_neg (by omega), if_neg (by omega), if_neg (by omega)]
          rfl
        have f0 : wr.frozen? ⟨gs, 6 + k, none⟩ = false := hVr.frozen (6 + k)
        clear ha
        go_wp2_with fail
        refine (hTk _).mono ?_
        rintro e w' ⟨rfl, nk, rfl⟩
        have hVd : Blk (wr.drewN nk) gs 25 (arr 16 (skQ V k)) := hVr
        have hZd : Blk (wr.drewN nk) w.heap.size 25 zst := hZr
        have hbd : Below w.heap.size w (wr.drewN nk) := below_drewN hbr _
        have c0d : (wr.drewN nk).cell? ⟨gs, 6 + k, none⟩ = some (.int .u8 0) := c0
        have f0d : (wr.drewN nk).frozen? ⟨gs, 6 + k, none⟩ = false := f0
        generalize wr.drewN nk = wd at *
        have hV2 := hVd.set_ (6 + k) (.int .u8 (V (6 + k) : Int))
        rw [arr_set 16 _ (6 + k) _ (by omega), arr_congr (skQ_step V k hlt)] at hV2
        have hZ2 := hZd.far (p := ⟨gs, 6 + k, none⟩) (by dsimp only; omega) (.int .u8 (V (6 + k) : Int))
        have hb2 := hbd.setCell (p := ⟨gs, 6 + k, none⟩) (by dsimp only; omega) (.int .u8 (V (6 + k) : Int))
        clear hVr hZr hbr c0 f0 hVd hZd hbd
        go_wp2_with fail
        go_roundw
        case rel => exact ⟨k + 1, by omega, by go_num, hZ2, hV2, hb2⟩
        case measure => simp [intOf]; omega
      · obtain rfl : k = 8 := by omega
        have hTl := fun W => hT 14 67 (by decide) (by rw [← hV]; rfl) W
        have c14 : wr.cell? ⟨gs, 14, none⟩ = some (.int .u8 0) := hVr.cell 14
        have f14 : wr.frozen? ⟨gs, 14, none⟩ = false := hVr.frozen 14
        have hx70 : (str l).extract 70 74 = str (l.drop 70) := by
          rw [str_extract, List.take_of_length_le (by omega)]
        have HX70 := hide hx70
        have e15 : ((str (l.drop 70)).toList == [102, 97, 115, 116]) = (V 15 == 1) := by
          rw [str_toList]
          have hv : V 15 = if l.drop 70 = [102, 97, 115, 116] then 1 else 0 := by rw [← hV]; rfl
          rw [hv]
          by_cases h : l.drop 70 = [102, 97, 115, 116]
          · rw [if_pos h, h]; rfl
          · rw [if_neg h, beq_eq_false_iff_ne.2 h]; rfl
        have hfin : ((arr 16 (skQ V 8)).setIfInBounds 14 (.int .u8 (V 14 : Int))).setIfInBounds 15 (.bool (V 15 == 1)) = stA V := rfl
        clear hx70
        go_wp2_with fail
        refine (hTl _).mono ?_
        rintro e w' ⟨rfl, nk, rfl⟩
        have hV7 : Blk (wr.drewN nk) gs 25 (arr 16 (skQ V 8)) := hVr
        have hZ7 : Blk (wr.drewN nk) w.heap.size 25 zst := hZr
        have hb7 : Below w.heap.size w (wr.drewN nk) := below_drewN hbr _
        have c14d : (wr.drewN nk).cell? ⟨gs, 14, none⟩ = some (.int .u8 0) := c14
        have f14d : (wr.drewN nk).frozen? ⟨gs, 14, none⟩ = false := f14
        generalize wr.drewN nk = x7 at *
        have hV8 := hV7.set_ 14 (.int .u8 (V 14 : Int))
        have hZ8 := hZ7.far (p := ⟨gs, 14, none⟩) (by dsimp only; omega) (.int .u8 (V 14 : Int))
        have hb8 := hb7.setCell (p := ⟨gs, 14, none⟩) (by dsimp only; omega) (.int .u8 (V 14 : Int))
        clear hVr hZr hbr c14 f14 hV7 hZ7 hb7 hTl
        go_upto_region 15 with fail
        generalize x7.setCell ⟨gs, 14, none⟩ (.int .u8 (V 14 : Int)) = w8 at *
        clear c14d f14d
        have c15 : w8.cell? ⟨gs, 15, none⟩ = some (.bool false) := hV8.cell 15
        have f15 : w8.frozen? ⟨gs, 15, none⟩ = false := hV8.frozen 15
        have hx70 := HX70.out
        have hV9 := hV8.set_ 15 (.bool (V 15 == 1))
        have hZ9 := hZ8.far (p := ⟨gs, 15, none⟩) (by dsimp only; omega) (.bool (V 15 == 1))
        have hb9 := hb8.setCell (p := ⟨gs, 15, none⟩) (by dsimp only; omega) (.bool (V 15 == 1))
        rw [hfin] at hV9
        clear hV8 hZ8 hb8 hfin
        go_upto_region 16 with fail
        generalize w8.setCell ⟨gs, 15, none⟩ (.bool (V 15 == 1)) = w9 at *
        clear c15 f15 hx70 e15 HX70
        have HV := hide hV
        have HOK := hide hok
        clear hV hok hT
        go_wp2_with (refine wpList_load_row rfl 25 _ rfl gs rfl _ (stA V) (0, 0) _ hV9 Tryd.underlying25 rfl (by kernel_rfl) ?_)
        refine (rText_calls V _ HOK.out).mono ?_
        rintro e w4 ⟨rfl, hb4⟩
        have hZ4 := hZ9.below hb4 hZ9.lt
        have hL4 := hV9.below hb4 hV9.lt
        have hb04 := hb9.trans (hb4.mono hb9.size)
        clear hZ9 hV9 hb9 hb4
        by_cases ht : tS V = l
        · have hq : ((str (tS V)).toList != (str l).toList) = false := by rw [str_toList, str_toList, ht]; exact bne_self_eq_false _
          have hq2 : ((str (tS V)).toList == (str l).toList) = true := by rw [str_toList, str_toList, ht]; exact beq_self_eq_true _
          have HE : Hid (rpV l = .tuple #[.agg (stA V), .int .i64 0]) := by rw [HRD.out, if_pos ht]; exact rfl
          clear ht
          go_wp2_with (first
            | (refine wpList_load_row rfl 25 _ rfl gs rfl _ (stA V) (0, 0) _ hL4 Tryd.underlying25 rfl (by kernel_rfl) ?_)
            | (refine wpList_store_row rfl 25 _ _ rfl w.heap.size (stA V) rfl rfl 25 _ hZ4 (by kernel_rfl) rfl (by kernel_rfl) ?_))
          exact bodyPost_ret (results_ct rfl rfl (hZ4.setRow _) Tryd.underlying25 rfl (by kernel_rfl)) rfl ⟨by rw [HE.out]; rfl, below_setRow hb04 (Nat.le_refl _) _⟩
        · have hne : (tS V == l) = false := beq_eq_false_iff_ne.2 ht
          have hq : ((str (tS V)).toList != (str l).toList) = true := by rw [str_toList, str_toList, bne, hne]; rfl
          have hq2 : ((str (tS V)).toList == (str l).toList) = false := by rw [str_toList, str_toList]; exact hne
          have HE : Hid (rpV l = .tuple #[.agg zst, .int .i64 3]) := by rw [HRD.out, if_neg ht]; exact rfl
          clear ht hne
          go_wp2_with (refine wpList_store_row rfl 25 _ _ rfl w.heap.size zst rfl rfl 25 _ hZ4 (by kernel_rfl) rfl (by kernel_rfl) ?_)
          exact bodyPost_ret (results_ct rfl rfl (hZ4.setRow _) Tryd.underlying25 rfl (by kernel_rfl)) rfl ⟨by rw [HE.out]; rfl, below_setRow hb04 (Nat.le_refl _) _⟩
  · have hrd : rpV l = .tuple #[.agg zst, .int .i64 3] := if_neg fun h => h74 h.1
    have HR := hide hrd
    have hz : (str l).size = l.length := strn l
    have h9' : ((l.length : Int) != 74) = true := by rw [bne_iff_ne]; omega
    clear hrd h74
    go_enter Tryd.func10, Tryd.ntmps10
    go_upto_region 2 with fail
    generalize w.alloc (.cells #[.int .u8 0, .int .u8 0, .int .u8 0, .int .u8 0, .int .u8 0, .int .u16 0, .int .u8 0, .int .u8 0, .int .u8 0, .int .u8 0, .int .u8 0, .int .u8 0, .int .u8 0, .int .u8 0, .int .u8 0, .bool false] 25) = w1 at *
    go_wp2_with (refine wpList_store_row rfl 25 _ _ rfl w.heap.size zst rfl rfl 25 _ hZ (by kernel_rfl) rfl (by kernel_rfl) ?_)
    exact bodyPost_ret (results_ct rfl rfl (hZ.setRow _) Tryd.underlying25 rfl (by kernel_rfl)) rfl ⟨by rw [HR.out]; rfl, below_setRow hb (Nat.le_refl _) _⟩
end Go.Proofs.YtelmkpcocaogjaaDoor
