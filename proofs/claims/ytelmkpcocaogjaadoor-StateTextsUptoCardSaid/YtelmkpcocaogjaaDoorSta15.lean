/-
  Package state: field, number; strings.Split at one byte.
-/
import Derived.Test.YtelmkpcocaogjaaDoorSta12
namespace Go.Proofs.YtelmkpcocaogjaaDoor
open Go.RowKit Pl

theorem str_eta (s : ByteArray) : str s.data.toList = s := rfl
theorem str_toList (l : List UInt8) : (str l).toList = l := by rw [ByteArray.toList_eq]; simp [str]
theorem strn (l : List UInt8) : (str l).size = l.length := by simp [str, ByteArray.size]
/-- A row of strings. -/
def srow (P : List (List UInt8)) : Array Value := (P.map fun l => Value.string (str l)).toArray
theorem srow_get (P : List (List UInt8)) (j : Nat) (x : List UInt8) (h : P[j]? = some x) : (srow P)[j]? = some (.string (str x)) := by simp [srow, h]
theorem split_parts (l : List UInt8) (c : UInt8) : (Lib.splitB (str [c]) 0 (Lib.countB (str l) (str [c])) (str l)).map Value.string = (Lib.split l [c]).map fun x => Value.string (str x) := by
  have h := Lib.splitB_data (str [c]) 0 (Lib.countB (str l) (str [c])) (str l)
  have e : Lib.splitK (str [c]).data.toList 0 (Lib.countB (str l) (str [c])) (str l).data.toList = Lib.split l [c] := rfl
  rw [e] at h
  rw [← h, List.map_map]
  rfl
theorem split_count (l : List UInt8) (c : UInt8) : Lib.countB (str l) (str [c]) + 1 = (Lib.split l [c]).length := by
  have h := Lib.splitB_data (str [c]) 0 (Lib.countB (str l) (str [c])) (str l)
  have e : Lib.splitK (str [c]).data.toList 0 (Lib.countB (str l) (str [c])) (str l).data.toList = Lib.split l [c] := rfl
  rw [e] at h
  rw [← h, List.length_map, Lib.splitB_all (str [c]) (by simp [str, ByteArray.size]) 0 _ _ rfl]
theorem stSplit_calls (l : List UInt8) (c : UInt8) (M : Int) (w : World) (hl : l.length ≤ 2000000) (hM : w.cell? ⟨0, 0, none⟩ = some (.int .i64 M)) :
    Calls Tryd.prog 28 #[.string (str l), .string (str [c])] w fun e w' => e = .returned (.slice (some ⟨w.heap.size, 0, none⟩) (Lib.split l [c]).length (Lib.split l [c]).length) ∧ w' = w.alloc (.cells (srow (Lib.split l [c])) 9) := by
  have h := Tryd.strings_Split (str l) (str [c]) M w (by rw [strn]; omega) hM (by rw [strn]; exact Nat.le_refl 1)
  rw [split_count, split_parts] at h
  exact h
set_option maxRecDepth 100000 in
theorem stField_calls (part name : List UInt8) (w : World) (hn : name.length ≤ 10) :
    Calls Tryd.prog 29 #[.string (str part), .string (str name)] w fun e w' => e = .returned (.tuple #[.string (str (Lib.trimPrefix part (name ++ [61]))), .bool (Lib.hasPrefix part (name ++ [61]))]) ∧ w = w' := by
  have hz : (str name).size ≤ 10 := by rw [strn]; exact hn
  have hc : str name ++ ⟨#[61]⟩ = str (name ++ [61]) := str_app name [61]
  have HC := hide hc
  have hcon : Calls Tryd.prog 53 #[.string (str part), .string (str name ++ ⟨#[61]⟩)] w fun e w' => e = .returned (.tuple #[.string (str (Lib.trimPrefix part (name ++ [61]))), .bool (Lib.hasPrefix part (name ++ [61]))]) ∧ w' = w := by
    rw [hc]
    exact Tryd.strings_CutPrefix (str part) (str (name ++ [61])) w
  clear hc
  go_enter Tryd.func29, Tryd.ntmps29
  go_wp2_with fail
  refine hcon.mono ?_
  rintro e w' ⟨rfl, rfl⟩
  clear hcon
  go_wp2_with fail
  go_ret2
  exact ⟨rfl, rfl⟩
theorem stNumber_calls (part name : List UInt8) (w : World) (hn : name.length ≤ 10) (hp : part.length ≤ 2000000) :
    Calls Tryd.prog 30 #[.string (str part), .string (str name)] w fun e w' => e = .returned (.int .u16 (numP part name : Nat)) ∧ w = w' := by
  have hlt : (str (Lib.trimPrefix part (name ++ [61]))).size ≤ maxLen := by
    rw [strn]
    unfold Lib.trimPrefix
    split
    · rw [List.length_drop]; unfold maxLen; omega
    · unfold maxLen; omega
  have hcon := octFromHex_calls (str (Lib.trimPrefix part (name ++ [61]))) w hlt
  rw [str_toList] at hcon
  unfold fhV at hcon
  have hq : IntKind.u16.wrap (((fh (Lib.trimPrefix part (name ++ [61]))).1 : Nat) : Int) = ((numP part name : Nat) : Int) := by
    rw [IntKind.wrap_u16]
    unfold numP
    omega
  generalize fh (Lib.trimPrefix part (name ++ [61])) = p at *
  have HQ := hide hq
  clear hq
  go_enter Tryd.func30, Tryd.ntmps30
  (go_wp2_with fail; refine Cl.p (stField_calls part name _ hn) ?_)
  go_wp2_with fail
  refine hcon.mono ?_
  rintro e w' ⟨rfl, rfl⟩
  clear hcon
  go_wp2_with fail
  go_ret
  exact ⟨by rw [← HQ.out]; rfl, rfl⟩
end Go.Proofs.YtelmkpcocaogjaaDoor
