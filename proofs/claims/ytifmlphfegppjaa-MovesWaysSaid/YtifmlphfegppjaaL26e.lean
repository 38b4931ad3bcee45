/-
  gannetlaw26: MovesWays.
-/
import Derived.Test.YtifmlphfegppjaaL26d
namespace Go.Proofs.Ytifmlphfegppjaa
open Go.RowKit

set_option maxRecDepth 100000 in
set_option maxHeartbeats 8000000 in
theorem movesWaysBad_calls (k f t l : Nat) (n : Int) (w : World) (hk : 5 ≤ k) (hl : l < 65536) :
    Calls Try.prog 5 #[.int .u8 (k : Int), .int .u16 (f : Int), .int .u16 (t : Int), .int .u16 (l : Int), .int .i64 n] w fun e w' => e = .returned (.bool true) ∧ Below w.heap.size w w' := by
  have i1 : (4 : Int) < (k : Int) := by omega
  go_enter Try.func5, Try.ntmps5
  (go_wp2_with fail; refine Cl.m (live26_calls _) ?_; intro w1 hb1)
  (go_wp2_with fail; refine Cl.m (mvAtBad_calls k f t n _ (Or.inl hk)) ?_; intro w2 hb2)
  have hz : Blk (w2.alloc (.cells #[.int .u16 0, .int .u16 0] 36)) w2.heap.size 36 #[.int .u16 0, .int .u16 0] := Blk.new _ _ _
  (go_wp2_with fail; refine Cl.p (mvAllBad_calls k f t l _ hk) ?_)
  go_wp2_with fail
  refine Cl.m (mvEndsBad_calls k f t l _ hk hl) ?_
  intro w3 hb3
  have hz3 := hz.below hb3 hz.lt
  have c0 : w3.cell? ⟨w2.heap.size, 0, none⟩ = some (.int .u16 0) := hz3.cell 0
  have c1 : w3.cell? ⟨w2.heap.size, 1, none⟩ = some (.int .u16 0) := hz3.cell 1
  (go_wp2_with fail; go_ret; exact ⟨rfl, by (repeat (first | exact Below.refl _ _ | assumption | refine Below.drew ?_ | refine Bl.alloc ?_ _ | refine below_drewN ?_ _ | refine Bl.chain ?_ (by assumption) (Nat.le_refl _)))⟩)
set_option maxRecDepth 100000 in
set_option maxHeartbeats 8000000 in
/-- Behind the three calls: the rest of the law (the ways one by one, the ends). -/
theorem movesWaysYes_calls (k f t l : Nat) (n : Int) (w : World) (hk : k < 5) (hf : f < 65536) (ht : t < 65536) (hl : l < 65536) (hn1 : -9223372036854775808 ≤ n) (hn2 : n ≤ 9223372036854775807) :
    Calls Try.prog 5 #[.int .u8 (k : Int), .int .u16 (f : Int), .int .u16 (t : Int), .int .u16 (l : Int), .int .i64 n] w fun e w' => e = .returned (.bool true) ∧ Below w.heap.size w w' := by
  have i1 : (decide ((4 : Int) < (k : Int))) = false := by rw [decide_eq_false_iff_not]; omega
  have hcl := cnt_b l hl
  by_cases hn : n < 0
  · go_enter Try.func5, Try.ntmps5
    (go_wp2_with fail; refine Cl.m (live26_calls _) ?_; intro w1 hb1)
    (go_wp2_with fail; refine Cl.m (mvAtBad_calls k f t n _ (Or.inr hn)) ?_; intro w2 hb2)
    have hz : Blk (w2.alloc (.cells #[.int .u16 0, .int .u16 0] 36)) w2.heap.size 36 #[.int .u16 0, .int .u16 0] := Blk.new _ _ _
    go_wp2_with fail
    refine (mvAll_calls k f t l _ hk hf ht hl).mono ?_
    rintro e w3 ⟨v, rfl, hrow, hb3⟩
    obtain ⟨g, c, rfl, hg, hcs⟩ := mvRow_cells hrow (by omega)
    clear hrow
    have hz3 := hz.below hb3 hz.lt
    go_wp2_with fail
    refine Cl.m (mvEnds_calls k f t l _ hk hf ht hl) ?_
    intro w4 hb4
    have hz4 := hz3.below hb4 hz3.lt
    have c0 : w4.cell? ⟨w2.heap.size, 0, none⟩ = some (.int .u16 0) := hz4.cell 0
    have c1 : w4.cell? ⟨w2.heap.size, 1, none⟩ = some (.int .u16 0) := hz4.cell 1
    go_wp2_with fail
    (go_wp2_with fail; refine Cl.p (rCount_calls l _ hl) ?_)
    have hcc : ((cnt l : Int) != (cnt l : Int)) = false := bne_self_eq_false _
    (go_wp2_with fail; refine Cl.p (mvCount_calls l _ hl) ?_)
    have hcs4 : ∀ i, i < cnt l → w4.cell? ⟨g, i * 2, none⟩ = some (.int .u16 (wyF k f i : Nat)) ∧ w4.cell? ⟨g, i * 2 + 1, none⟩ = some (.int .u16 (wyT k t i : Nat)) := fun i hi =>
      ⟨(hb4.cell (p := ⟨g, i * 2, none⟩) (cell_lt (hcs i hi).1)).trans (hcs i hi).1, (hb4.cell (p := ⟨g, i * 2 + 1, none⟩) (cell_lt (hcs i hi).2)).trans (hcs i hi).2⟩
    have hb04 : Below w.heap.size w w4 := by (repeat (first | exact Below.refl _ _ | assumption | refine Below.drew ?_ | refine Bl.alloc ?_ _ | refine below_drewN ?_ _ | refine Bl.chain ?_ (by assumption) (Nat.le_refl _)))
    clear hb1 hb2 hb3 hb4 hcs c0 c1 hz hz3 hz4 hg
    go_wp2_with fail
    go_loopw [20] (fun i wr => ∃ j : Nat, j ≤ cnt l ∧ i = .int .i64 (j : Int) ∧ wr = w4) (fun i _ => cnt l - (intOf i).toNat)
    case atStart => exact ⟨0, by omega, rfl, rfl⟩
    case round =>
      obtain ⟨j, hj, rfl, rfl⟩ := hrel
      by_cases hjn : j < cnt l
      · have hjn' : (j : Int) < (cnt l : Int) := by omega
        obtain ⟨x0, x1⟩ := hcs4 j hjn
        clear hcs4
        go_wp2_with fail
        refine Cl.p (rAt_calls k f t j _ _ rfl hk hf ht (by omega)) ?_
        generalize wyF k f j = F at *
        generalize wyT k t j = T at *
        have z1 : ((F : Int) != (F : Int)) = false := bne_self_eq_false _
        have z2 : ((T : Int) != (T : Int)) = false := bne_self_eq_false _
        go_wp2_with fail
        go_roundw
        case rel => exact ⟨j + 1, by omega, by go_num, trivial⟩
        case measure => simp [intOf]; omega
      · obtain rfl : j = cnt l := by omega
        clear hcs4
        (go_wp2_with fail; refine Cl.p (rAtN_calls k f t (cnt l) _ hk hf ht (by omega)) ?_)
        have hQ : ∀ (a b : Nat), ((a : Int) == (a : Int)) = true := fun a _ => beq_self_eq_true _
        go_wp2_with fail
        go_ret
        exact ⟨rfl, hb04⟩
  · obtain ⟨m, rfl⟩ : ∃ m : Nat, n = (m : Int) := ⟨n.toNat, by omega⟩
    have i2 : (decide ((m : Int) < 0)) = false := by rw [decide_eq_false_iff_not]; omega
    clear hn
    go_enter Try.func5, Try.ntmps5
    (go_wp2_with fail; refine Cl.m (live26_calls _) ?_; intro w1 hb1)
    (go_wp2_with fail; refine Cl.m (mvAtN_calls k f t m _ hk hf ht (by omega)) ?_; intro w2 hb2)
    have hM := fun W => rAtN_calls k f t m W hk hf ht (by omega)
    generalize wyF k f (m % 65536) = F0 at *
    generalize wyT k t (m % 65536) = T0 at *
    have hz : Blk (w2.alloc (.cells #[.int .u16 (F0 : Int), .int .u16 (T0 : Int)] 36)) w2.heap.size 36 #[.int .u16 (F0 : Int), .int .u16 (T0 : Int)] := Blk.new _ _ _
    go_wp2_with fail
    refine (mvAll_calls k f t l _ hk hf ht hl).mono ?_
    rintro e w3 ⟨v, rfl, hrow, hb3⟩
    obtain ⟨g, c, rfl, hg, hcs⟩ := mvRow_cells hrow (by omega)
    clear hrow
    have hz3 := hz.below hb3 hz.lt
    go_wp2_with fail
    refine Cl.m (mvEnds_calls k f t l _ hk hf ht hl) ?_
    intro w4 hb4
    have hz4 := hz3.below hb4 hz3.lt
    have c0 : w4.cell? ⟨w2.heap.size, 0, none⟩ = some (.int .u16 (F0 : Int)) := hz4.cell 0
    have c1 : w4.cell? ⟨w2.heap.size, 1, none⟩ = some (.int .u16 (T0 : Int)) := hz4.cell 1
    have b1 : ((F0 : Int) == (F0 : Int)) = true := beq_self_eq_true _
    have b2 : ((T0 : Int) == (T0 : Int)) = true := beq_self_eq_true _
    (go_wp2_with fail; refine Cl.p (hM _) ?_)
    (go_wp2_with fail; refine Cl.p (rCount_calls l _ hl) ?_)
    have hcc : ((cnt l : Int) != (cnt l : Int)) = false := bne_self_eq_false _
    (go_wp2_with fail; refine Cl.p (mvCount_calls l _ hl) ?_)
    have hcs4 : ∀ i, i < cnt l → w4.cell? ⟨g, i * 2, none⟩ = some (.int .u16 (wyF k f i : Nat)) ∧ w4.cell? ⟨g, i * 2 + 1, none⟩ = some (.int .u16 (wyT k t i : Nat)) := fun i hi =>
      ⟨(hb4.cell (p := ⟨g, i * 2, none⟩) (cell_lt (hcs i hi).1)).trans (hcs i hi).1, (hb4.cell (p := ⟨g, i * 2 + 1, none⟩) (cell_lt (hcs i hi).2)).trans (hcs i hi).2⟩
    have hb04 : Below w.heap.size w w4 := by (repeat (first | exact Below.refl _ _ | assumption | refine Below.drew ?_ | refine Bl.alloc ?_ _ | refine below_drewN ?_ _ | refine Bl.chain ?_ (by assumption) (Nat.le_refl _)))
    clear hb1 hb2 hb3 hb4 hcs c0 c1 hz hz3 hz4 hg
    go_wp2_with fail
    go_loopw [20] (fun i wr => ∃ j : Nat, j ≤ cnt l ∧ i = .int .i64 (j : Int) ∧ wr = w4) (fun i _ => cnt l - (intOf i).toNat)
    case atStart => exact ⟨0, by omega, rfl, rfl⟩
    case round =>
      obtain ⟨j, hj, rfl, rfl⟩ := hrel
      by_cases hjn : j < cnt l
      · have hjn' : (j : Int) < (cnt l : Int) := by omega
        obtain ⟨x0, x1⟩ := hcs4 j hjn
        clear hcs4
        go_wp2_with fail
        refine Cl.p (rAt_calls k f t j _ _ rfl hk hf ht (by omega)) ?_
        generalize wyF k f j = F at *
        generalize wyT k t j = T at *
        have z1 : ((F : Int) != (F : Int)) = false := bne_self_eq_false _
        have z2 : ((T : Int) != (T : Int)) = false := bne_self_eq_false _
        go_wp2_with fail
        go_roundw
        case rel => exact ⟨j + 1, by omega, by go_num, trivial⟩
        case measure => simp [intOf]; omega
      · obtain rfl : j = cnt l := by omega
        clear hcs4
        (go_wp2_with fail; refine Cl.p (rAtN_calls k f t (cnt l) _ hk hf ht (by omega)) ?_)
        have hQ : ∀ (a b : Nat), ((a : Int) == (a : Int)) = true := fun a _ => beq_self_eq_true _
        go_wp2_with fail
        go_ret
        exact ⟨rfl, hb04⟩
theorem movesWays_calls (k f t l : Nat) (n : Int) (w : World) (hf : f < 65536) (ht : t < 65536) (hl : l < 65536) (hn1 : -9223372036854775808 ≤ n) (hn2 : n ≤ 9223372036854775807) :
    Calls Try.prog 5 #[.int .u8 (k : Int), .int .u16 (f : Int), .int .u16 (t : Int), .int .u16 (l : Int), .int .i64 n] w fun e w' => e = .returned (.bool true) ∧ Below w.heap.size w w' := by
  by_cases hk : k < 5
  · exact movesWaysYes_calls k f t l n w hk hf ht hl hn1 hn2
  · exact movesWaysBad_calls k f t l n w (by omega) hl
section
open Go.ChangeShapes Go.WideShapes Go.ChangeAt
variable {H : Type} {enc : TypeId × Value → H} {W : World} {base : Nat}
theorem walk_MovesWays {v0 v1 v2 v3 v4 : Value} {d0 d1 d2 d3 d4 : DataW H} {p0 p1 p2 p3 p4 : List MemPlace}
    (_hsh : W.ShapedOpen Try.prog) (_hsz : (DataW.weightsEach Try.prog [5, 22, 22, 22, 3] [d0, d1, d2, d3, d4]).all (· ≤ reachBytes) = true)
    (hv0 : Value.okWide Try.prog W .any base 5 v0) (hd0 : DataW.Trod enc Try.prog W 0 (fun _ => true) true 5 v0 d0 p0) (hv1 : Value.okWide Try.prog W .any base 22 v1) (hd1 : DataW.Trod enc Try.prog W 0 (fun _ => true) true 22 v1 d1 p1) (hv2 : Value.okWide Try.prog W .any base 22 v2) (hd2 : DataW.Trod enc Try.prog W 0 (fun _ => true) true 22 v2 d2 p2) (hv3 : Value.okWide Try.prog W .any base 22 v3) (hd3 : DataW.Trod enc Try.prog W 0 (fun _ => true) true 22 v3 d3 p3) (hv4 : Value.okWide Try.prog W .any base 3 v4) (hd4 : DataW.Trod enc Try.prog W 0 (fun _ => true) true 3 v4 d4 p4) :
    Calls Try.prog 5 #[v0, v1, v2, v3, v4] W fun e W' => e = .returned (.bool true) ∧ Below W.heap.size W W' := by
  obtain ⟨x0, rfl, h0⟩ := open_u8 Try.underlying5 hv0 hd0
  obtain ⟨x1, rfl, h1⟩ := open_u16 Try.underlying22 hv1 hd1
  obtain ⟨x2, rfl, h2⟩ := open_u16 Try.underlying22 hv2 hd2
  obtain ⟨x3, rfl, h3⟩ := open_u16 Try.underlying22 hv3 hd3
  obtain ⟨x4, rfl, h4a, h4b⟩ := open_i64 Try.underlying3 hv4 hd4
  exact movesWays_calls x0 x1 x2 x3 x4 W h1 h2 h3 h4a h4b
end
end Go.Proofs.Ytifmlphfegppjaa
