/-
  The texts OpenA, TSums of the proof of TopSums, as one file (they are merged by a program).
-/
import Derived.Test.YtplobngbjpgcgaaGreatDoorA1
import Derived.Test.YtplobngbjpgcgaaGreatDoorA37
import Derived.Test.YtplobngbjpgcgaaGreatDoorA38
section
/-
  An array of numbers by value, opened.
-/
namespace Go.Proofs.YtplobngbjpgcgaaGreatDoor
set_option linter.unusedSimpArgs false
set_option linter.unusedVariables false
set_option maxRecDepth 10000
open Go.RowKit
section
open Go.ChangeShapes Go.WideShapes Go.ChangeAt
variable {H : Type} {enc : TypeId × Value → H} {P : Program} {w : World} {base : Nat} {spare : Nat → Bool} {held : Bool} {r : Reach} {b0 : Nat} {t e : TypeId} {v : Value} {d : DataW H} {ps : List MemPlace}
def iOf : Value → Int | .int _ n => n | _ => 0
theorem open_arr {n : Nat} {k : IntKind} (ht : P.underlying t = some (.array n e)) (he : P.underlying e = some (.int k)) (hc : P.cellsOf e = 1) (hct : P.cellsOf t = n)
    (hv : Value.okWide P w r b0 t v) (hd : DataW.Trod enc P w base spare held t v d ps) :
    ∃ g : Nat → Int, v = .agg (arr n fun i => .int k (g i)) ∧ ∀ i, i < n → (Lit.int k (g i)).wf = true := by
  obtain ⟨cs, rfl, hsz, _⟩ : ∃ cs, v = .agg cs ∧ cs.size = P.cellsOf t ∧ Row.okWide P w r b0 t cs := by simpa [Value.okWide, ht] using hv
  rw [hct] at hsz
  obtain ⟨fuel, hf⟩ := hd
  obtain ⟨xs, m, _, _, hl, hxn, hall⟩ := DataW.trod_array ht hf
  have hall2 : ∀ i, i < n → ∃ z : Int, cs[i]? = some (.int k z) ∧ (Lit.int k z).wf = true := by
    intro i hi
    have h1 := hall i hi
    rw [List.getElem?_eq_getElem (by omega), hc, Nat.mul_one] at h1
    obtain ⟨z, hz, _, hw⟩ := DataW.trod_int he h1
    refine ⟨z, ?_, hw⟩
    have h2 : (((Value.agg cs).cells.toList.drop i).take 1)[0]? = some (.int k z) := by first | rw [hz]; rfl | (have := congrArg (fun l : List Value => l[0]?) hz; simpa using this)
    simpa [Value.cells, List.getElem?_take, List.getElem?_drop] using h2
  refine ⟨fun i => iOf (cs.getD i undef), ?_, fun i hi => ?_⟩
  · congr 1
    apply Array.ext_getElem?
    intro i
    by_cases hi : i < n
    · rw [arr_get n _ i hi]
      obtain ⟨z, hz, _⟩ := hall2 i hi
      rw [hz]
      simp [hz, iOf]
    · rw [Array.getElem?_eq_none (by omega), Array.getElem?_eq_none (by rw [arr_size]; omega)]
  · obtain ⟨z, hz, hw⟩ := hall2 i hi
    simpa [hz, iOf] using hw
end
end Go.Proofs.YtplobngbjpgcgaaGreatDoor
end
section
/-
  gannettop: TopSums, both ways.
-/
namespace Go.Proofs.YtplobngbjpgcgaaGreatDoor
set_option linter.unusedSimpArgs false
set_option linter.unusedVariables false
set_option maxRecDepth 10000
open Go.RowKit Pl
section
open Go.ChangeShapes Go.WideShapes Go.ChangeAt
theorem maxLen_cell {W : World} (h : W.ShapedOpen Tryz.prog) : ∃ M, W.cell? ⟨0, 0, none⟩ = some (.int .i64 M) :=
  Go.Proofs.cell_of_shapedOpen_int (zero := #[.int .i64 0]) (t := 3) h (of_decide_eq_true (by kernel_rfl)) (by kernel_rfl) rfl (by kernel_rfl) (by kernel_rfl) Tryz.underlying3
/-- Twelve bytes, as numbers. -/
def byA (l : Nat → Int) (i : Nat) : Nat := if i < 12 then (l i).toNat else 0
theorem byA_lt {l : Nat → Int} (h : ∀ i, i < 12 → (Lit.int .u8 (l i)).wf = true) (i : Nat) : byA l i < 256 := by
  unfold byA
  split
  · rename_i hi
    have := bounds_u8 (h i hi)
    omega
  · omega
theorem walk_TopSums {H : Type} {enc : TypeId × Value → H} {W : World} {base : Nat} {v0 v1 v2 v3 : Value} {d0 d1 d2 d3 : DataW H} {p0 p1 p2 p3 : List MemPlace}
    (hsh : W.ShapedOpen Tryz.prog)
    (hv0 : Value.okWide Tryz.prog W .any base 22 v0) (hd0 : DataW.Trod enc Tryz.prog W 0 (fun _ => true) true 22 v0 d0 p0) (hv1 : Value.okWide Tryz.prog W .any base 22 v1) (hd1 : DataW.Trod enc Tryz.prog W 0 (fun _ => true) true 22 v1 d1 p1) (hv2 : Value.okWide Tryz.prog W .any base 5 v2) (hd2 : DataW.Trod enc Tryz.prog W 0 (fun _ => true) true 5 v2 d2 p2) (hv3 : Value.okWide Tryz.prog W .any base 4 v3) (hd3 : DataW.Trod enc Tryz.prog W 0 (fun _ => true) true 4 v3 d3 p3) :
    Calls Tryz.prog 3 #[v0, v1, v2, v3] W fun e W' => e = .returned (.bool true) ∧ Below W.heap.size W W' := by
  obtain ⟨M, hM⟩ := maxLen_cell hsh
  obtain ⟨l0, rfl, hl0⟩ := open_arr Tryz.underlying22 Tryz.underlying5 (by kernel_rfl) (by kernel_rfl) hv0 hd0
  obtain ⟨l1, rfl, hl1⟩ := open_arr Tryz.underlying22 Tryz.underlying5 (by kernel_rfl) (by kernel_rfl) hv1 hd1
  obtain ⟨x2, rfl, h2⟩ := open_u8 Tryz.underlying5 hv2 hd2
  obtain ⟨b3, rfl, _, _⟩ := open_bool Tryz.underlying4 hv3 hd3
  have e : ∀ (l : Nat → Int), (∀ i, i < 12 → (Lit.int .u8 (l i)).wf = true) → ∀ i, i < 12 → (arr 12 fun i => Value.int .u8 (l i))[i]? = some (.int .u8 (byA l i : Int)) := fun l hl i hi => by
    rw [arr_get 12 _ i hi]
    have := bounds_u8 (hl i hi)
    unfold byA
    rw [if_pos hi, Int.toNat_of_nonneg (by omega)]
  cases b3
  · exact topSumsF (byA l0) (byA l1) _ _ x2 M W (byA_lt hl0) (byA_lt hl1) (e l0 hl0) (e l1 hl1) h2 hM
  · exact topSumsT (byA l0) (byA l1) _ _ x2 M W (byA_lt hl0) (byA_lt hl1) (e l0 hl0) (e l1 hl1) h2 hM
end
end Go.Proofs.YtplobngbjpgcgaaGreatDoor
end
