/-
  An array of numbers by value, opened.
-/
import Derived.Test.YtodimiffmmkndaaDoorOpen
import Derived.Test.YtodimiffmmkndaaDoorArr
namespace Go.Proofs.YtodimiffmmkndaaDoor
set_option linter.unusedSimpArgs false
set_option linter.unusedVariables false
set_option maxRecDepth 10000
open Go.RowKit
section
open Go.ChangeShapes Go.WideShapes Go.ChangeAt
variable {H : Type} {enc : TypeId × Value → H} {P : Program} {w : World} {base : Nat} {spare : Nat → Bool} {held : Bool} {r : Reach} {b0 : Nat} {t e : TypeId} {v : Value} {d : DataW H} {ps : List MemPlace}
def iOf : Value → Int | .int _ n => n | _ => 0
theorem open_arr {n : Nat} {k : IntKind} (ht : P.underlying t = some (.array n e)) (he : P.underlying e = some (.int k)) (hc : P.cellsOf e = 1) (hct : P.cellsOf t = n)
    (hv : Value.okWide P w r b0 t v) (hd : DataW.Trod enc P w base spare held t v d ps) :
    ∃ g : Nat → Int, v = .agg (arr n fun i => .int k (g i)) ∧ ∀ i, i < n → (Lit.int k (g i)).wf = true := by
  obtain ⟨cs, rfl, hsz, _⟩ : ∃ cs, v = .agg cs ∧ cs.size = P.cellsOf t ∧ Row.okWide P w r b0 t cs := by simpa [Value.okWide, ht] using hv
  rw [hct] at hsz
  obtain ⟨fuel, hf⟩ := hd
  obtain ⟨xs, m, _, _, hl, hxn, hall⟩ := DataW.trod_array ht hf
  have hall2 : ∀ i, i < n → ∃ z : Int, cs[i]? = some (.int k z) ∧ (Lit.int k z).wf = true := by
    intro i hi
    have h1 := hall i hi
    rw [List.getElem?_eq_getElem (by omega), hc, Nat.mul_one] at h1
    obtain ⟨z, hz, _, hw⟩ := DataW.trod_int he h1
    refine ⟨z, ?_, hw⟩
    have h2 : (((Value.agg cs).cells.toList.drop i).take 1)[0]? = some (.int k z) := by first | rw [hz]; rfl | (have := congrArg (fun l : List Value => l[0]?) hz; simpa using this)
    simpa [Value.cells, List.getElem?_take, List.getElem?_drop] using h2
  refine ⟨fun i => iOf (cs.getD i undef), ?_, fun i hi => ?_⟩
  · congr 1
    apply Array.ext_getElem?
    intro i
    by_cases hi : i < n
    · rw [arr_get n _ i hi]
      obtain ⟨z, hz, _⟩ := hall2 i hi
      rw [hz]
      simp [hz, iOf]
    · rw [Array.getElem?_eq_none (by omega), Array.getElem?_eq_none (by rw [arr_size]; omega)]
  · obtain ⟨z, hz, hw⟩ := hall2 i hi
    simpa [hz, iOf] using hw
theorem open_bytes (ht : P.underlying t = some (.slice e)) (he : P.underlying e = some (.int .u8)) (hc : P.cellsOf e = 1) (hv : Value.okWide P w r b0 t v) (hd : DataW.Trod enc P w base spare held t v d ps) :
    ∃ (a : Option Addr) (len cap : Nat) (A : Nat → Nat), v = .slice a len cap ∧ NumsAt w .u8 a len (fun i => (A i : Int)) ∧ len ≤ maxLen ∧ (∀ i, i < len → A i < 256) := by
  obtain ⟨a, len, cap, g, rfl, hn, h1, h2, hw⟩ := open_nums ht he hc hv hd
  refine ⟨a, len, cap, fun i => (g i).toNat, rfl, fun i hi => ?_, Nat.le_trans h1 h2, fun i hi => ?_⟩
  · have := bounds_u8 (hw i hi)
    obtain ⟨b, off, ha, hlt, hcl⟩ := hn i hi
    refine ⟨b, off, ha, hlt, ?_⟩
    show w.cell? _ = some (.int .u8 ((g i).toNat : Int))
    rw [Int.toNat_of_nonneg (by omega)]
    exact hcl
  · have := bounds_u8 (hw i hi)
    show (g i).toNat < 256
    omega
end
end Go.Proofs.YtodimiffmmkndaaDoor
