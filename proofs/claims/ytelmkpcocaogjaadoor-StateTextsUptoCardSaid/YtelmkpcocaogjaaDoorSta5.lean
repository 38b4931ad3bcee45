/-
  Package state: Set.
-/
import Derived.Test.YtelmkpcocaogjaaDoorSta3
import Derived.Test.YtelmkpcocaogjaaDoorSta4
namespace Go.Proofs.YtelmkpcocaogjaaDoor
set_option linter.unusedSimpArgs false
set_option linter.unusedVariables false
open Go.RowKit Pl

def updN (R : Nat → Nat) (i v : Nat) : Nat → Nat := fun j => if j = i then v else R j
theorem updN_ok {R : Nat → Nat} (hR : ROk R) {i v : Nat} (hv : v ≤ most i) : ROk (updN R i v) := rok_most fun j hj => by
  unfold updN
  by_cases e : j = i
  · subst e; rw [if_pos rfl]; exact hv
  · rw [if_neg e]; exact hR.most j hj
theorem vaA_upd (R : Nat → Nat) (i v : Nat) (hi : i < 16) : (vaA R).setIfInBounds i (.int .u16 (v : Int)) = vaA (updN R i v) := by
  unfold vaA
  rw [arr_set 16 _ i _ hi]
  apply arr_congr
  intro j _
  unfold updv updN
  by_cases e : j = i
  · rw [if_pos e, if_pos e]
  · rw [if_neg e, if_neg e]
set_option maxRecDepth 100000 in
theorem stSet_no (R : Nat → Nat) (s : ByteArray) (v : Nat) (w : World) (h : ∀ i, i < 16 → nmB i ≠ s) :
    Calls Tryd.prog 17 #[.agg (stA R), .string s, .int .u16 (v : Int)] w fun e w' => e = .returned (.tuple #[.agg zst, .int .i64 10]) ∧ Below w.heap.size w w' := by
  have H := hide h
  clear h
  have hZ : Blk ((w.alloc (.cells (stA R) 25)).alloc (.cells #[.int .u8 0, .int .u8 0, .int .u8 0, .int .u8 0, .int .u8 0, .int .u16 0, .int .u8 0, .int .u8 0, .int .u8 0, .int .u8 0, .int .u8 0, .int .u8 0, .int .u8 0, .int .u8 0, .int .u8 0, .bool false] 25)) (w.heap.size + 1) 25 zst := Blk.newAt (by simp)
  have hb : Below w.heap.size w ((w.alloc (.cells (stA R) 25)).alloc (.cells #[.int .u8 0, .int .u8 0, .int .u8 0, .int .u8 0, .int .u8 0, .int .u16 0, .int .u8 0, .int .u8 0, .int .u8 0, .int .u8 0, .int .u8 0, .int .u8 0, .int .u8 0, .int .u8 0, .int .u8 0, .bool false] 25)) := Bl.alloc (Bl.alloc (Below.refl _ _) _) _
  go_enter Tryd.func17, Tryd.ntmps17
  go_wp2_with fail
  generalize ((w.alloc (.cells (stA R) 25)).alloc (.cells #[.int .u8 0, .int .u8 0, .int .u8 0, .int .u8 0, .int .u8 0, .int .u16 0, .int .u8 0, .int .u8 0, .int .u8 0, .int .u8 0, .int .u8 0, .int .u8 0, .int .u8 0, .int .u8 0, .int .u8 0, .bool false] 25)) = w0 at *
  refine (stFind_no s _ H.out).mono ?_
  rintro e w1 ⟨rfl, hb1⟩
  have hZ1 := hZ.below hb1 hZ.lt
  have hb01 := hb.trans (hb1.mono hb.size)
  go_wp2_with (refine wpList_store_row rfl 25 _ _ rfl (w.heap.size + 1) zst rfl rfl 25 _ hZ1 (by kernel_rfl) rfl (by kernel_rfl) ?_)
  exact bodyPost_ret (results_ct rfl rfl (hZ1.setRow _) Tryd.underlying25 rfl (by kernel_rfl)) rfl ⟨rfl, below_setRow hb01 (by omega) _⟩
set_option maxRecDepth 100000 in
theorem stSet_big (R : Nat → Nat) (i v : Nat) (w : World) (hi : i < 16) (hv : most i < v) (hv2 : v < 65536) :
    Calls Tryd.prog 17 #[.agg (stA R), .string (nmB i), .int .u16 (v : Int)] w fun e w' => e = .returned (.tuple #[.agg zst, .int .i64 1]) ∧ Below w.heap.size w w' := by
  have hZ : Blk ((w.alloc (.cells (stA R) 25)).alloc (.cells #[.int .u8 0, .int .u8 0, .int .u8 0, .int .u8 0, .int .u8 0, .int .u16 0, .int .u8 0, .int .u8 0, .int .u8 0, .int .u8 0, .int .u8 0, .int .u8 0, .int .u8 0, .int .u8 0, .int .u8 0, .bool false] 25)) (w.heap.size + 1) 25 zst := Blk.newAt (by simp)
  have hb : Below w.heap.size w ((w.alloc (.cells (stA R) 25)).alloc (.cells #[.int .u8 0, .int .u8 0, .int .u8 0, .int .u8 0, .int .u8 0, .int .u16 0, .int .u8 0, .int .u8 0, .int .u8 0, .int .u8 0, .int .u8 0, .int .u8 0, .int .u8 0, .int .u8 0, .int .u8 0, .bool false] 25)) := Bl.alloc (Bl.alloc (Below.refl _ _) _) _
  have i1 : (decide ((i : Int) < 0)) = false := by rw [decide_eq_false_iff_not]; omega
  have i2 : ((most i : Nat) : Int) < (v : Int) := by omega
  go_enter Tryd.func17, Tryd.ntmps17
  go_wp2_with fail
  generalize ((w.alloc (.cells (stA R) 25)).alloc (.cells #[.int .u8 0, .int .u8 0, .int .u8 0, .int .u8 0, .int .u8 0, .int .u16 0, .int .u8 0, .int .u8 0, .int .u8 0, .int .u8 0, .int .u8 0, .int .u8 0, .int .u8 0, .int .u8 0, .int .u8 0, .bool false] 25)) = w0 at *
  refine (stFind_yes i _ hi).mono ?_
  rintro e w1 ⟨rfl, hb1⟩
  have hZ1 := hZ.below hb1 hZ.lt
  have hb01 := hb.trans (hb1.mono hb.size)
  go_wp2_with fail
  refine Cl.p (stMost_calls i _ hi) ?_
  go_wp2_with (refine wpList_store_row rfl 25 _ _ rfl (w.heap.size + 1) zst rfl rfl 25 _ hZ1 (by kernel_rfl) rfl (by kernel_rfl) ?_)
  exact bodyPost_ret (results_ct rfl rfl (hZ1.setRow _) Tryd.underlying25 rfl (by kernel_rfl)) rfl ⟨rfl, below_setRow hb01 (by omega) _⟩
set_option maxRecDepth 100000 in
set_option maxHeartbeats 1000000 in
theorem stSet_ok (R : Nat → Nat) (i v : Nat) (w : World) (hR : ROk R) (hi : i < 16) (hv : v ≤ most i) :
    Calls Tryd.prog 17 #[.agg (stA R), .string (nmB i), .int .u16 (v : Int)] w fun e w' => e = .returned (.tuple #[.agg (stA (updN R i v)), .int .i64 0]) ∧ Below w.heap.size w w' := by
  have hX : Blk ((w.alloc (.cells (stA R) 25)).alloc (.cells #[.int .u8 0, .int .u8 0, .int .u8 0, .int .u8 0, .int .u8 0, .int .u16 0, .int .u8 0, .int .u8 0, .int .u8 0, .int .u8 0, .int .u8 0, .int .u8 0, .int .u8 0, .int .u8 0, .int .u8 0, .bool false] 25)) w.heap.size 25 (stA R) := Blk.alloc (Blk.new _ _ _) _
  have hZ : Blk ((w.alloc (.cells (stA R) 25)).alloc (.cells #[.int .u8 0, .int .u8 0, .int .u8 0, .int .u8 0, .int .u8 0, .int .u16 0, .int .u8 0, .int .u8 0, .int .u8 0, .int .u8 0, .int .u8 0, .int .u8 0, .int .u8 0, .int .u8 0, .int .u8 0, .bool false] 25)) (w.heap.size + 1) 25 zst := Blk.newAt (by simp)
  have hb : Below w.heap.size w ((w.alloc (.cells (stA R) 25)).alloc (.cells #[.int .u8 0, .int .u8 0, .int .u8 0, .int .u8 0, .int .u8 0, .int .u16 0, .int .u8 0, .int .u8 0, .int .u8 0, .int .u8 0, .int .u8 0, .int .u8 0, .int .u8 0, .int .u8 0, .int .u8 0, .bool false] 25)) := Bl.alloc (Bl.alloc (Below.refl _ _) _) _
  have i1 : (decide ((i : Int) < 0)) = false := by rw [decide_eq_false_iff_not]; omega
  have i2 : (decide (((most i : Nat) : Int) < (v : Int))) = false := by rw [decide_eq_false_iff_not]; omega
  have i2n : (decide (most i < v)) = false := by rw [decide_eq_false_iff_not]; omega
  have i3 : (i : Int) < 16 := by omega
  have hU := updN_ok hR hv
  go_enter Tryd.func17, Tryd.ntmps17
  go_wp2_with fail
  generalize ((w.alloc (.cells (stA R) 25)).alloc (.cells #[.int .u8 0, .int .u8 0, .int .u8 0, .int .u8 0, .int .u8 0, .int .u16 0, .int .u8 0, .int .u8 0, .int .u8 0, .int .u8 0, .int .u8 0, .int .u8 0, .int .u8 0, .int .u8 0, .int .u8 0, .bool false] 25)) = w0 at *
  refine (stFind_yes i _ hi).mono ?_
  rintro e w1 ⟨rfl, hb1⟩
  have hX1 := hX.below hb1 hX.lt
  have hZ1 := hZ.below hb1 hZ.lt
  have hb01 := hb.trans (hb1.mono hb.size)
  clear hX hZ hb hb1
  go_wp2_with fail
  refine Cl.p (stMost_calls i _ hi) ?_
  go_wp2_with (refine wpList_load_row rfl 25 _ rfl w.heap.size rfl _ (stA R) (0, 0) _ hX1 Tryd.underlying25 rfl (by kernel_rfl) ?_)
  refine (stOf_calls R _ hR).mono ?_
  rintro e w2 ⟨rfl, hb2⟩
  have hZ2 := hZ1.below hb2 hZ1.lt
  have hb02 := hb01.trans (hb2.mono hb01.size)
  have hz3 := Blk.new w2 64 (arr 16 fun _ => .int .u16 0)
  have hs2 := hb02.size
  have hZlt := hZ2.lt
  clear hX1 hZ1 hb01 hb2
  go_upto_region 7 with (refine wpList_store_row rfl 64 _ _ rfl w2.heap.size (vaA R) rfl rfl 64 _ hz3 (by kernel_rfl) rfl (by kernel_rfl) ?_; rw [setRow_new])
  have hV : Blk (w2.alloc (.cells (vaA R) 64)) w2.heap.size 64 (vaA R) := Blk.new _ _ _
  have hZ3 : Blk (w2.alloc (.cells (vaA R) 64)) (w.heap.size + 1) 25 zst := hZ2.alloc _
  have hb03 : Below w.heap.size w (w2.alloc (.cells (vaA R) 64)) := Bl.alloc hb02 _
  generalize w2.alloc (.cells (vaA R) 64) = w3 at *
  obtain ⟨gV, hgV⟩ : ∃ x, w2.heap.size = x := ⟨_, rfl⟩
  rw [hgV] at hV hs2 hZlt ⊢
  clear hz3 hZ2 hb02 hgV
  have c0 : w3.cell? ⟨gV, i, none⟩ = some (.int .u16 (R i : Int)) := by rw [hV.cell]; exact arr_get 16 _ i hi
  have f0 : w3.frozen? ⟨gV, i, none⟩ = false := hV.frozen i
  have hV4 := hV.set_ i (.int .u16 (v : Int))
  rw [vaA_upd R i v hi] at hV4
  have hZ4 := hZ3.far (p := ⟨gV, i, none⟩) (by dsimp only; omega) (.int .u16 (v : Int))
  have hb4 := hb03.setCell (p := ⟨gV, i, none⟩) (by dsimp only; omega) (.int .u16 (v : Int))
  clear hV hZ3 hb03
  go_wp2_with (refine wpList_load_row rfl 64 _ rfl gV rfl _ (vaA (updN R i v)) (0, 0) _ hV4 Tryd.underlying64 rfl (by kernel_rfl) ?_)
  refine (stState_calls (updN R i v) _ hU).mono ?_
  rintro e w5 ⟨rfl, hb5⟩
  have hZ5 := hZ4.below hb5 hZ4.lt
  have hb05 := hb4.trans (hb5.mono hb4.size)
  go_wp2_with (refine wpList_store_row rfl 25 _ _ rfl (w.heap.size + 1) (stA (updN R i v)) rfl rfl 25 _ hZ5 (by kernel_rfl) rfl (by kernel_rfl) ?_)
  exact bodyPost_ret (results_ct rfl rfl (hZ5.setRow _) Tryd.underlying25 rfl (by kernel_rfl)) rfl ⟨rfl, below_setRow hb05 (by omega) _⟩
end Go.Proofs.YtelmkpcocaogjaaDoor
