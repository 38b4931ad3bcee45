/-
  A struct by value, its fields one cell each, opened to cells.
-/
import Derived.Test.YtelmkpcocaogjaaDoorOpenS
import Derived.Test.YtelmkpcocaogjaaDoorArr
namespace Go.Proofs.YtelmkpcocaogjaaDoor
set_option linter.unusedSimpArgs false
set_option linter.unusedVariables false
open Go.ChangeShapes Go.WideShapes Go.Deep Go.RowKit

section
variable {H : Type} {enc : TypeId × Value → H} {P : Program} {w : World} {base : Nat} {spare : Nat → Bool} {held : Bool} {r : Reach} {b0 : Nat} {t : TypeId} {v : Value} {d : DataW H} {ps : List MemPlace}
theorem open_fields {fs : Array Field} (ht : P.underlying t = some (.struct fs)) (hone : oneCellFields P fs = true) (hC : P.cellsOf t = fs.size)
    (hv : Value.okWide P w r b0 t v) (hd : DataW.Trod enc P w base spare held t v d ps) :
    ∃ C : Nat → Value, v = .agg (arr fs.size C) ∧ ∀ (j : Nat) (f : Field), fs[j]? = some f → ∃ (n : Nat) (y : DataW H × List MemPlace), DataW.trod enc P w base spare held n f.type [C j] = some y := by
  unfold Value.okWide at hv
  simp only [ht] at hv
  obtain ⟨cs, rfl, hsz, _⟩ := hv
  obtain ⟨fuel, hf⟩ := hd
  rw [show (Value.agg cs).cells = cs from rfl] at hf
  obtain ⟨ys, n, hn, hy, hlen, hyl, hfs⟩ := DataW.trod_struct ht hf
  rw [hC] at hsz
  refine ⟨fun j => (cs[j]?).getD undef, ?_, fun j f hj => ?_⟩
  · congr 1
    apply Array.ext_getElem?
    intro i
    by_cases hi : i < fs.size
    · rw [arr_get _ _ i hi, Array.getElem?_eq_getElem (by omega)]
      rfl
    · rw [Array.getElem?_eq_none (by omega), Array.getElem?_eq_none (by rw [arr_size]; omega)]
  · obtain ⟨ho, hk⟩ := hone_of hone j f hj
    have hjl : j < fs.size := (Array.getElem?_eq_some_iff.1 hj).1
    have h1 := hfs j f hj
    rw [ho, hk] at h1
    have hone' : (cs.toList.drop j).take 1 = [cs[j]'(by omega)] := by
      rw [List.drop_eq_getElem_cons (by simp; omega)]
      simp
    rw [hone'] at h1
    have hys : ys[j]? = some (ys[j]'(by omega)) := List.getElem?_eq_getElem (by omega)
    refine ⟨n, ys[j]'(by omega), ?_⟩
    show DataW.trod enc P w base spare held n f.type [(cs[j]?).getD undef] = some (ys[j]'(by omega))
    rw [Array.getElem?_eq_getElem (by omega)]
    exact h1.trans hys
end
end Go.Proofs.YtelmkpcocaogjaaDoor
