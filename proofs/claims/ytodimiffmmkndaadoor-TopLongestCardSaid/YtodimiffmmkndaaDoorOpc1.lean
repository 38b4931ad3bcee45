/-
  Package opcode: part, Known.
-/
import Derived.Test.YtodimiffmmkndaaDoorRgn
import Derived.Test.YtodimiffmmkndaaDoorTac
import Derived.Test.YtodimiffmmkndaaDoorRbits
import Derived.Test.YtodimiffmmkndaaDoorOpenS
import Derived.Test.YtodimiffmmkndaaDoorShelf
namespace Go.Proofs.YtodimiffmmkndaaDoor
set_option linter.unusedSimpArgs false
set_option linter.unusedVariables false
set_option maxRecDepth 10000
open Go.RowKit Go.Shelf Pl
/-- The operations of a body's second region. -/
def ops2nd (f : Func) : Array Oper := match f.body with | some (.seq _ (.seq (.region _ ops _) _)) => ops | _ => #[]
/-- The text that a slice of a constant text cuts. -/
def cutOf (o : Option Oper) : ByteArray := match o with | some o => (match o.op with | .slice _ (.const (.string s)) _ _ _ => s | _ => .empty) | none => .empty
/-- The table of all bytes, as it stands in the program. -/
noncomputable def tab : ByteArray := cutOf (ops2nd Tryd.f14)[7]?
theorem tab_size : tab.size = 1536 := by decide +kernel
/-- A byte's cell, its name, its mode's letters. -/
noncomputable def cel (b : Nat) : ByteArray := tab.extract (6 * b) (6 * b + 6)
noncomputable def nmB (b : Nat) : ByteArray := ⟨(Lib.trimRightB (List.take 4 (cel b).data.toList) 32).toArray⟩
noncomputable def mdB (b : Nat) : ByteArray := (cel b).extract 4 6
theorem cel_size (b : Nat) (hb : b < 256) : (cel b).size = 6 := by
  unfold cel
  rw [ByteArray.size_extract, tab_size]
  omega
theorem part_calls (b : Nat) (w : World) (hb : b < 256) :
    Calls Tryd.prog 14 #[.int .u8 (b : Int)] w fun e w' => (e = .returned (.tuple #[.string (nmB b), .string (mdB b)])) ∧ Below w.heap.size w w' := by
  have hb0 : Below w.heap.size w w := Below.refl _ _
  go_enter Tryd.func14, Tryd.ntmps14
  go_wp2_with fail
  generalize hS : ByteArray.extract _ _ _ = S
  have key : ∃ T, T = tab ∧ T.extract (6 * b) (6 * b + 6) = S := by
    refine ⟨_, ?_, hS⟩
    kernel_rfl
  obtain ⟨T, rfl, hS2⟩ := key
  clear hS
  have hS6 : S.size = 6 := by rw [← hS2]; exact cel_size b hb
  have hS3 : cel b = S := hS2
  have HS := hide hS3
  clear hS2 hS3
  have htr := fun W => Tryd.strings_TrimRight_one (S.extract 0 4) 32 (by decide) W (by rw [ByteArray.size_extract]; omega)
  refine wp_region_held_drew (S := fun W => Below w.heap.size w W) (by kernel_rfl) (by first | exact hb0.drew | exact hb0 | exact Below.drew hb0) (fun hS0 => ?_)
  clear hb0
  change wpAnyH _ _ _ _ _ 7 #[false, false, false, false, false, false, false] _ _
  generalize w.drew = v0 at *
  refine wpAnyH_take (i := 0) (v := ?_) rfl (by kernel_rfl) (by kernel_rfl) (by kernel_rfl) (fun _ _ _ h => h) (Or.inl ⟨by rfl, ?_⟩) hS0 ?_
  rotate_left
  · (intro w hSw; (try dsimp only at hSw); go_simp; try with_reducible rfl)
  simp only [List.getElem_toArray, List.getElem_cons_zero, List.getElem_cons_succ, Act.put, List.setIfInBounds_toArray, List.set_cons_zero, List.set_cons_succ]
  refine wpAnyH_take (i := 1) (v := ?_) rfl (by kernel_rfl) (by kernel_rfl) (by kernel_rfl) (fun _ _ _ h => h) (Or.inl ⟨by rfl, ?_⟩) hS0 ?_
  rotate_left
  · (intro w hSw; (try dsimp only at hSw); go_simp; try with_reducible rfl)
  simp only [List.getElem_toArray, List.getElem_cons_zero, List.getElem_cons_succ, Act.put, List.setIfInBounds_toArray, List.set_cons_zero, List.set_cons_succ]
  refine wpAnyH_take (i := 3) (v := ?_) rfl (by kernel_rfl) (by kernel_rfl) (by kernel_rfl) (fun _ _ _ h => h) (Or.inl ⟨by rfl, ?_⟩) hS0 ?_
  rotate_left
  · (intro w hSw; (try dsimp only at hSw); go_simp; try with_reducible rfl)
  simp only [List.getElem_toArray, List.getElem_cons_zero, List.getElem_cons_succ, Act.put, List.setIfInBounds_toArray, List.set_cons_zero, List.set_cons_succ]
  refine wpAnyH_take (i := 4) (v := ?_) rfl (by kernel_rfl) (by kernel_rfl) (by kernel_rfl) (fun _ _ _ h => h) (Or.inl ⟨by rfl, ?_⟩) hS0 ?_
  rotate_left
  · (intro w hSw; (try dsimp only at hSw); go_simp; try with_reducible rfl)
  simp only [List.getElem_toArray, List.getElem_cons_zero, List.getElem_cons_succ, Act.put, List.setIfInBounds_toArray, List.set_cons_zero, List.set_cons_succ]
  refine wpAnyH_ready (rs := [2]) (by kernel_rfl) (by simp) ?_
  refine AllReadyH.cons rfl (fun K hK => ?_) AllReadyH.nil
  go_simp
  refine (htr _).mono ?_
  rintro e w' ⟨rfl, rfl⟩
  (try go_simp)
  refine hK.out _ _ hS0 (fun _ => ?_)
  clear hK K
  simp only [List.getElem_toArray, List.getElem_cons_zero, List.getElem_cons_succ, Act.put, List.setIfInBounds_toArray, List.set_cons_zero, List.set_cons_succ]
  refine wpAnyH_take (i := 5) (v := ?_) rfl (by kernel_rfl) (by kernel_rfl) (by kernel_rfl) (fun _ _ _ h => h) (Or.inl ⟨by rfl, ?_⟩) hS0 ?_
  rotate_left
  · (intro w hSw; (try dsimp only at hSw); go_simp; try with_reducible rfl)
  simp only [List.getElem_toArray, List.getElem_cons_zero, List.getElem_cons_succ, Act.put, List.setIfInBounds_toArray, List.set_cons_zero, List.set_cons_succ]
  refine wpAnyH_take (i := 6) (v := ?_) rfl (by kernel_rfl) (by kernel_rfl) (by kernel_rfl) (fun _ _ _ h => h) (Or.inl ⟨by rfl, ?_⟩) hS0 ?_
  rotate_left
  · (intro w hSw; (try dsimp only at hSw); go_simp; try with_reducible rfl)
  simp only [List.getElem_toArray, List.getElem_cons_zero, List.getElem_cons_succ, Act.put, List.setIfInBounds_toArray, List.set_cons_zero, List.set_cons_succ]
  refine wpAnyH_done (by kernel_rfl) ?_ _
  have hb0 := hS0
  clear hS0
  go_wp2_with fail
  go_ret2
  refine ⟨?_, hb0⟩
  unfold nmB mdB
  rw [HS.out]
  rfl
theorem nmB_size (b : Nat) (hb : b < 256) : (nmB b).size ≤ 4 := by
  show (Lib.trimRightB (List.take 4 (cel b).data.toList) 32).toArray.size ≤ 4
  rw [List.size_toArray]
  unfold Lib.trimRightB
  rw [List.length_reverse]
  refine Nat.le_trans (List.dropWhile_sublist _).length_le ?_
  rw [List.length_reverse, List.length_take]
  omega
/-- Is a name one that is known? -/
def knoS (s : ByteArray) : Bool := !(s.toList == [45, 45, 45, 45])
end Go.Proofs.YtodimiffmmkndaaDoor
