/-
  Package state: find, Names, Get.
-/
import Derived.Test.YtelmkpcocaogjaaDoorSta2
import Derived.Test.YtelmkpcocaogjaaDoorShelf
namespace Go.Proofs.YtelmkpcocaogjaaDoor
open Go.RowKit Pl

def nmZ : List ByteArray := (List.range 16).map nmB
theorem nmZ_get (j : Nat) (hj : j < 16) : nmZ.getD j ByteArray.empty = nmB j := by simp [nmZ, hj]
theorem nmB_inj_all : ∀ i, i < 16 → ∀ j, j < 16 → nm i = nm j → i = j := by decide
theorem nmB_inj {i j : Nat} (hi : i < 16) (hj : j < 16) (h : nmB i = nmB j) : i = j := nmB_inj_all i hi j hj (by
  unfold nmB at h
  have := congrArg (fun b : ByteArray => b.data.toList) h
  simpa using this)
set_option maxRecDepth 100000 in
theorem stFind_calls (s : ByteArray) (w : World) :
    Calls Tryd.prog 40 #[.string s] w fun e w' => e = .returned (.int .i64 (Lib.idxOfS nmZ s)) ∧ Below w.heap.size w w' := by
  go_enter Tryd.func40, Tryd.ntmps40
  (go_wp2_with fail; refine Cl.m (stNames_calls _) ?_; intro w1 hb1)
  have hz := Blk.new w1 61 (arr 16 fun _ => .string ByteArray.empty)
  have hA : Blk (w1.alloc (.cells nmA 61)) w1.heap.size 61 nmA := Blk.new _ _ _
  have hc : ∀ j, j < nmZ.length → (w1.alloc (.cells nmA 61)).cell? ⟨w1.heap.size, 0 + j, none⟩ = some (.string (nmZ.getD j ByteArray.empty)) := fun j hj => by
    have hj : j < 16 := hj
    rw [Nat.zero_add, nmZ_get j hj, hA.cell]
    exact arr_get 16 _ j hj
  have hcon := Tryd.slices_Index_string w1.heap.size 0 16 16 nmZ s (w1.alloc (.cells nmA 61)) (Nat.le_refl _) (by decide) hc
  have hbA := Bl.alloc hb1 (.cells nmA 61)
  clear hc hA
  go_wp2_with (refine wpList_store_row rfl 61 _ _ rfl w1.heap.size nmA rfl rfl 61 _ hz (by kernel_rfl) rfl (by kernel_rfl) ?_; rw [setRow_new])
  refine hcon.mono ?_
  rintro e w2 ⟨rfl, rfl⟩
  clear hcon
  go_wp2_with fail
  go_ret
  exact ⟨rfl, hbA⟩
theorem idx_yes (i : Nat) (hi : i < 16) : Lib.idxOfS nmZ (nmB i) = (i : Int) := by
  have := Lib.idxFromS_hit (nmB i) nmZ i 0 hi (nmZ_get i hi) fun j hj => by
    rw [nmZ_get j (by omega)]
    intro e
    have := nmB_inj (by omega) hi e
    omega
  rw [Nat.zero_add] at this
  exact this
theorem idx_no (s : ByteArray) (h : ∀ i, i < 16 → nmB i ≠ s) : Lib.idxOfS nmZ s = -1 :=
  Lib.idxFromS_miss s nmZ 0 fun j hj => by rw [nmZ_get j hj]; exact h j hj
theorem stFind_yes (i : Nat) (w : World) (hi : i < 16) :
    Calls Tryd.prog 40 #[.string (nmB i)] w fun e w' => e = .returned (.int .i64 (i : Int)) ∧ Below w.heap.size w w' := by
  have := stFind_calls (nmB i) w
  rwa [idx_yes i hi] at this
theorem stFind_no (s : ByteArray) (w : World) (h : ∀ i, i < 16 → nmB i ≠ s) :
    Calls Tryd.prog 40 #[.string s] w fun e w' => e = .returned (.int .i64 (-1)) ∧ Below w.heap.size w w' := by
  have := stFind_calls s w
  rwa [idx_no s h] at this
theorem stNamesL_calls (w : World) :
    Calls Tryd.prog 14 #[] w fun e w' => ∃ g, e = .returned (.slice (some ⟨g, 0, none⟩) 16 16) ∧ Blk w' g 61 nmA ∧ Below w.heap.size w w' := by
  go_enter Tryd.func14, Tryd.ntmps14
  (go_wp2_with fail; refine Cl.m (stNames_calls _) ?_; intro w1 hb1)
  have hz := Blk.new w1 61 (arr 16 fun _ => .string ByteArray.empty)
  have hA : Blk (w1.alloc (.cells nmA 61)) w1.heap.size 61 nmA := Blk.new _ _ _
  have hbA := Bl.alloc hb1 (.cells nmA 61)
  go_wp2_with (refine wpList_store_row rfl 61 _ _ rfl w1.heap.size nmA rfl rfl 61 _ hz (by kernel_rfl) rfl (by kernel_rfl) ?_; rw [setRow_new])
  go_ret
  exact ⟨_, rfl, hA, hbA⟩
set_option maxRecDepth 100000 in
theorem stGet_yes (R : Nat → Nat) (i : Nat) (w : World) (hR : ROk R) (hi : i < 16) :
    Calls Tryd.prog 16 #[.agg (stA R), .string (nmB i)] w fun e w' => e = .returned (.tuple #[.int .u16 (R i : Int), .bool true]) ∧ Below w.heap.size w w' := by
  have hX : Blk (w.alloc (.cells (stA R) 25)) w.heap.size 25 (stA R) := Blk.new _ _ _
  have hbA : Below w.heap.size w (w.alloc (.cells (stA R) 25)) := Bl.alloc (Below.refl _ _) _
  have hix : ∀ w : World, (Instr.index 64 (.agg (vaA R)) (.int .i64 (i : Int))).run Tryd.prog w = .ok (.int .u16 (R i : Int)) w :=
    fun w => run_index_row 64 22 16 Tryd.underlying64 (fun _ => by kernel_rfl) (fun _ => by kernel_rfl) _ _ i hi _ (arr_get 16 _ i hi) w
  have hi0 : (0 : Int) ≤ (i : Int) := by omega
  have i1 : (decide ((i : Int) < 0)) = false := by rw [decide_eq_false_iff_not]; omega
  go_enter Tryd.func16, Tryd.ntmps16
  go_wp2_with fail
  refine (stFind_yes i _ hi).mono ?_
  rintro e w1 ⟨rfl, hb1⟩
  have hX1 := hX.below hb1 hX.lt
  have hb01 := hbA.trans (hb1.mono hbA.size)
  go_wp2_with (refine wpList_load_row rfl 25 _ rfl w.heap.size rfl _ (stA R) (0, 0) _ hX1 Tryd.underlying25 rfl (by kernel_rfl) ?_)
  refine (stOf_calls R _ hR).mono ?_
  rintro e w2 ⟨rfl, hb2⟩
  have hb02 := hb01.trans (hb2.mono hb01.size)
  go_wp2_with fail
  go_ret2
  exact ⟨rfl, hb02⟩
set_option maxRecDepth 100000 in
theorem stGet_no (R : Nat → Nat) (s : ByteArray) (w : World) (h : ∀ i, i < 16 → nmB i ≠ s) :
    Calls Tryd.prog 16 #[.agg (stA R), .string s] w fun e w' => e = .returned (.tuple #[.int .u16 0, .bool false]) ∧ Below w.heap.size w w' := by
  have hbA : Below w.heap.size w (w.alloc (.cells (stA R) 25)) := Bl.alloc (Below.refl _ _) _
  have H := hide h
  clear h
  go_enter Tryd.func16, Tryd.ntmps16
  go_wp2_with fail
  refine (stFind_no s _ H.out).mono ?_
  rintro e w1 ⟨rfl, hb1⟩
  have hb01 := hbA.trans (hb1.mono hbA.size)
  go_wp2_with fail
  go_ret2
  exact ⟨rfl, hb01⟩
end Go.Proofs.YtelmkpcocaogjaaDoor
