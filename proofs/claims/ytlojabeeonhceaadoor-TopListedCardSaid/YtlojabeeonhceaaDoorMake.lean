/-
  make of a slice whose elements are one cell each, as an array by place.
-/
import Derived.Test.YtlojabeeonhceaaDoorArr
import Derived.Laws.MakeOwn
namespace Go.Proofs.YtlojabeeonhceaaDoor
set_option linter.unusedSimpArgs false
set_option linter.unusedVariables false
set_option maxRecDepth 10000
open Go.RowKit Pl

section
variable {P : Program}
theorem made_arr (z : Value) (n : Nat) : madeCells #[z] n = arr n (fun _ => z) := by
  apply Array.ext_getElem?
  intro i
  by_cases h : i < n
  · rw [arr_get n _ i h]
    simp [madeCells, h, Nat.mod_one]
  · rw [Array.getElem?_eq_none (by rw [size_madeCells]; omega), Array.getElem?_eq_none (by rw [arr_size]; omega)]

theorem run_make_arr (t e : TypeId) (i : TypeInfo) (z : Value) (bytes : Nat) (ht : P.underlying t = some (.slice e)) (hi : P.info? e = some i) (hz : i.zero = some z) (hs : i.size = 1) (hb : i.bytes = bytes) (hc : z.cells = #[z])
    (kl kc : IntKind) (c : Nat) (hbytes : bytes * c ≤ 281474976710656) (h63 : c ≤ 9223372036854775807) (w : World) :
    (Instr.makeSlice t (.int kl (c : Int)) (.int kc (c : Int))).run P w = .ok (.slice (some ⟨w.heap.size, 0, none⟩) c c) (w.alloc (.cells (arr c (fun _ => z)) e)) := by
  subst hb
  have hb' : (i.bytes : Int) * (c : Int) ≤ 281474976710656 := by
    have h : ((i.bytes * c : Nat) : Int) ≤ 281474976710656 := by omega
    rwa [Int.natCast_mul] at h
  have h := run_make (P := P) w t e i z ht hi hz kl kc c c (by omega) (by omega) hb' (by omega)
  rw [h]
  simp only [Int.toNat_natCast, hs, Nat.mul_one, hc, made_arr]
end
end Go.Proofs.YtlojabeeonhceaaDoor
