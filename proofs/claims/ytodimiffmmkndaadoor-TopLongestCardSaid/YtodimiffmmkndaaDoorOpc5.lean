/-
  Package opcode: Of, on.
-/
import Derived.Test.YtodimiffmmkndaaDoorOpc4
namespace Go.Proofs.YtodimiffmmkndaaDoor
set_option linter.unusedSimpArgs false
set_option linter.unusedVariables false
set_option maxRecDepth 10000
open Go.RowKit Go.Shelf Pl
def nameS (s : ByteArray) : ByteArray := if (s.toList == [45, 45, 45, 45]) = true then ⟨#[78, 79, 80]⟩ else s
/-- A byte's mode. -/
noncomputable def modeB (b : Nat) : Nat := (mdI b / 2).toNat
theorem modeB_lt (b : Nat) (hb : b < 256) : modeB b < 20 := by
  have := mdI_all b hb
  unfold modeB
  omega
/-- What a byte means. -/
noncomputable def opV (b : Nat) : Array Value := #[.string (nameS (nmB b)), .int .u8 (modeB b : Int), .int .i64 (1 + behM (modeB b)), .int .i64 (cycM (nameS (nmB b)) (modeB b))]
theorem behM_le (m : Nat) : 0 ≤ behM m ∧ behM m ≤ 6 := by
  unfold behM
  rcases (show m < 20 ∨ 20 ≤ m by omega) with h | h
  · have h : m = 0 ∨ m = 1 ∨ m = 2 ∨ m = 3 ∨ m = 4 ∨ m = 5 ∨ m = 6 ∨ m = 7 ∨ m = 8 ∨ m = 9 ∨ m = 10 ∨ m = 11 ∨ m = 12 ∨ m = 13 ∨ m = 14 ∨ m = 15 ∨ m = 16 ∨ m = 17 ∨ m = 18 ∨ m = 19 := by omega
    rcases h with rfl | rfl | rfl | rfl | rfl | rfl | rfl | rfl | rfl | rfl | rfl | rfl | rfl | rfl | rfl | rfl | rfl | rfl | rfl | rfl <;> decide
  · rw [List.getD_eq_getElem?_getD, List.getElem?_eq_none (by simpa using h)]
    decide
theorem nameS_le (s : ByteArray) (h : s.size ≤ 4) : (nameS s).size ≤ 4 := by
  unfold nameS
  split
  · decide
  · exact h
set_option maxHeartbeats 2000000 in
theorem opOf_calls (b : Nat) (M : Int) (w : World) (hb : b < 256) (hM : w.cell? ⟨0, 0, none⟩ = some (.int .i64 M)) :
    Calls Tryd.prog 8 #[.int .u8 (b : Int)] w fun e w' => e = .returned (.agg (opV b)) ∧ Below w.heap.size w w' := by
  have hpt := fun W => part_calls b W hb
  have hs4 := nmB_size b hb
  have hml := modeB_lt b hb
  have hI0 := mdI_all b hb
  have hmd : modeB b = (mdI b / 2).toNat := rfl
  have hI : Lib.index lts.data.toList (mdB b).data.toList = mdI b := rfl
  unfold opV
  generalize modeB b = q at *
  generalize mdI b = I at *
  generalize nmB b = s at *
  generalize mdB b = m at *
  have hn4 := nameS_le s hs4
  have hbe := behM_le q
  have hbc := fun W => behM_calls q W hml
  have hcy := fun W => cycM_calls (nameS s) q W hn4 hml
  have hq : (I.tdiv 2) = (q : Int) := by rw [Int.tdiv_eq_ediv_of_nonneg hI0.1]; omega
  have hM0 : (⟨0, 0, none⟩ : Addr).block < w.heap.size := cell_lt hM
  have hu : nameS s = if (s.toList == [45, 45, 45, 45]) = true then ⟨#[78, 79, 80]⟩ else s := rfl
  generalize nameS s = ns at *
  generalize behM q = bh at *
  generalize cycM ns q = cy at *
  have HI := hide hI
  clear hI hmd
  cases hx : (s.toList == [45, 45, 45, 45])
  case false =>
    rw [hx] at hu
    obtain rfl : ns = s := hu
    go_enter Tryd.func8, Tryd.ntmps8
    go_wp2_with fail
    refine Cl.m (hpt _) ?_
    intro w1 hb1
    go_wp2_with fail
    have hb01 : Below w.heap.size w w1 := (Bl.alloc (Below.refl _ _) _).trans (hb1.mono (by simp))
    have hz : Blk w1 w.heap.size 30 #[.string ⟨#[]⟩, .int .u8 0, .int .i64 0, .int .i64 0] := Blk.below (Blk.new w 30 _) hb1 (by simp)
    have hM1 : w1.cell? ⟨0, 0, none⟩ = some (.int .i64 M) := (hb01.cell (p := ⟨0, 0, none⟩) hM0).trans hM
    refine (Tryd.strings_Index _ m M w1 (by decide) hM1).mono ?_
    rintro e w2 ⟨rfl, rfl⟩
    generalize hJ : Lib.index _ _ = J
    have key : ∃ T, T = lts ∧ Lib.index T.data.toList m.data.toList = J := by
      refine ⟨_, ?_, hJ⟩
      kernel_rfl
    obtain ⟨T, rfl, hJ2⟩ := key
    obtain rfl : J = I := hJ2.symm.trans HI.out
    clear hJ hJ2
    go_wp2_with fail
    refine Cl.p (hbc _) ?_
    go_wp2_with fail
    refine Cl.p (hcy _) ?_
    go_wp2_with (refine wpList_store_row rfl 30 _ _ rfl w.heap.size #[.string ns, .int .u8 (q : Int), .int .i64 (1 + bh), .int .i64 cy] rfl rfl 30 _ hz (by kernel_rfl) rfl (by kernel_rfl) ?_)
    exact bodyPost_ret (results_cell_row rfl _ _ w.heap.size 30 #[.string ns, .int .u8 (q : Int), .int .i64 (1 + bh), .int .i64 cy] (0, 0) _ rfl (hz.setRow _) Tryd.underlying30 rfl (by kernel_rfl)) rfl ⟨rfl, hb01.trans (below_setRow (Below.refl _ _) (Nat.le_refl _) _)⟩
  case true =>
    rw [hx] at hu
    obtain rfl : ns = ⟨#[78, 79, 80]⟩ := hu
    go_enter Tryd.func8, Tryd.ntmps8
    go_wp2_with fail
    refine Cl.m (hpt _) ?_
    intro w1 hb1
    go_wp2_with fail
    have hb01 : Below w.heap.size w w1 := (Bl.alloc (Below.refl _ _) _).trans (hb1.mono (by simp))
    have hz : Blk w1 w.heap.size 30 #[.string ⟨#[]⟩, .int .u8 0, .int .i64 0, .int .i64 0] := Blk.below (Blk.new w 30 _) hb1 (by simp)
    have hM1 : w1.cell? ⟨0, 0, none⟩ = some (.int .i64 M) := (hb01.cell (p := ⟨0, 0, none⟩) hM0).trans hM
    refine (Tryd.strings_Index _ m M w1 (by decide) hM1).mono ?_
    rintro e w2 ⟨rfl, rfl⟩
    generalize hJ : Lib.index _ _ = J
    have key : ∃ T, T = lts ∧ Lib.index T.data.toList m.data.toList = J := by
      refine ⟨_, ?_, hJ⟩
      kernel_rfl
    obtain ⟨T, rfl, hJ2⟩ := key
    obtain rfl : J = I := hJ2.symm.trans HI.out
    clear hJ hJ2
    go_wp2_with fail
    refine Cl.p (hbc _) ?_
    go_wp2_with fail
    refine Cl.p (hcy _) ?_
    go_wp2_with (refine wpList_store_row rfl 30 _ _ rfl w.heap.size #[.string ⟨#[78, 79, 80]⟩, .int .u8 (q : Int), .int .i64 (1 + bh), .int .i64 cy] rfl rfl 30 _ hz (by kernel_rfl) rfl (by kernel_rfl) ?_)
    exact bodyPost_ret (results_cell_row rfl _ _ w.heap.size 30 #[.string ⟨#[78, 79, 80]⟩, .int .u8 (q : Int), .int .i64 (1 + bh), .int .i64 cy] (0, 0) _ rfl (hz.setRow _) Tryd.underlying30 rfl (by kernel_rfl)) rfl ⟨rfl, hb01.trans (below_setRow (Below.refl _ _) (Nat.le_refl _) _)⟩
end Go.Proofs.YtodimiffmmkndaaDoor
