/-
  gannetref25: two, Read.
-/
import Derived.Test.YtelmkpcocaogjaaDoorSta14
import Derived.Test.YtelmkpcocaogjaaDoorSta15
namespace Go.Proofs.YtelmkpcocaogjaaDoor
set_option linter.unusedSimpArgs false
set_option linter.unusedVariables false
open Go.RowKit Pl

theorem str_extract (l : List UInt8) (a b : Nat) : (str l).extract a b = str ((l.take b).drop a) := by
  have h := Lib.extract_data (str l) a b
  apply ByteArray.ext
  apply Array.ext'
  rw [h]
  simp [str, List.drop_take]
set_option maxRecDepth 100000 in
theorem rTwo_calls (l : List UInt8) (a : Nat) (w : World) (hl : l.length = 74) (ha : a + 2 ≤ 74) :
    Calls Tryd.prog 33 #[.string (str l), .int .i64 (a : Int)] w fun e w' => e = .returned (.int .u8 (twoP l a : Nat)) ∧ ∃ n, w' = w.drewN n := by
  have hz : (str l).size = 74 := by rw [strn, hl]
  have hx : (str l).extract a (a + 2) = str ((l.drop a).take 2) := by
    rw [str_extract, List.take_drop]
  have hcon : ∀ W, Calls Tryd.prog 55 #[.string (str ((l.drop a).take 2))] W fun e w' => e = .returned (.tuple #[.int .u32 ((fh ((l.drop a).take 2)).1 : Int), .int .i64 ((fh ((l.drop a).take 2)).2 : Int)]) ∧ ∃ n, w' = W.drewN n := fun W => by
    have := refFromHex_calls (str ((l.drop a).take 2)) W (by rw [strn]; have := List.length_take_le 2 (l.drop a); unfold maxLen; omega)
    rw [str_toList] at this
    exact this
  have hq : IntKind.u8.wrap (((fh ((l.drop a).take 2)).1 : Nat) : Int) = ((twoP l a : Nat) : Int) := by
    rw [IntKind.wrap_u8]
    unfold twoP
    omega
  have hi1 : (a : Int) ≤ 74 := by omega
  have hi2 : (a : Int) + 2 ≤ 74 := by omega
  have hi3 : ((a : Int) + 2).toNat = a + 2 := by omega
  have hi4 : IntKind.i64.wrap ((a : Int) + 2) = (a : Int) + 2 := by rw [IntKind.wrap_i64]; omega
  generalize fh ((l.drop a).take 2) = p at *
  have HQ := hide hq
  have HX := hide hx
  clear hq hx
  go_enter Tryd.func33, Tryd.ntmps33
  go_wp2_with fail
  rw [HX.out]
  refine (hcon _).mono ?_
  rintro e w' ⟨rfl, n, rfl⟩
  clear hcon
  go_wp2_with fail
  go_ret
  exact ⟨by rw [← HQ.out]; rfl, n, rfl⟩
end Go.Proofs.YtelmkpcocaogjaaDoor
