/-
  gannetlaw04: CartOver, the arguments opened.
-/
import Derived.Test.YtafabjmeeccifaaL04d
import Derived.Test.YtafabjmeeccifaaOpenF
namespace Go.Proofs.Ytafabjmeeccifaa
open Go.RowKit Pl
section
open Go.ChangeShapes Go.WideShapes Go.ChangeAt
variable {H : Type} {enc : TypeId × Value → H} {W : World} {base : Nat}
theorem open_piece {v : Value} {d : DataW H} {p : List MemPlace} (hv : Value.okWide Try.prog W .any base 46 v) (hd : DataW.Trod enc Try.prog W 0 (fun _ => true) true 46 v d p) :
    ∃ (t : Int) (o : Option Addr) (m cp : Nat) (L : Nat → Int), v = .agg #[.int .i64 t, .slice o m cp] ∧ NumsAt W .u8 o m L ∧ m ≤ cp ∧ cp ≤ maxLen := by
  obtain ⟨C, rfl, hf⟩ := open_fields Try.underlying46 (by kernel_rfl) (by kernel_rfl) hv hd
  obtain ⟨_, _, h0⟩ := hf 0 _ rfl
  obtain ⟨_, _, h1⟩ := hf 1 _ rfl
  obtain ⟨s, hs, _⟩ := field_i64 Try.underlying3 h0
  obtain ⟨q1, q2, q3, q4⟩ := field_bytes h1
  refine ⟨s, sA (C 1), sN (C 1), sC (C 1), sB W (C 1), ?_, q2, q3, q4⟩
  rw [← hs, ← q1]
  rfl
theorem walk_CartOver {v0 v1 : Value} {d0 d1 : DataW H} {p0 p1 : List MemPlace}
    (_hsh : W.ShapedOpen Try.prog) (_hsz : (DataW.weightsEach Try.prog [22, 46] [d0, d1]).all (· ≤ reachBytes) = true)
    (hv0 : Value.okWide Try.prog W .any base 22 v0) (hd0 : DataW.Trod enc Try.prog W 0 (fun _ => true) true 22 v0 d0 p0) (hv1 : Value.okWide Try.prog W .any base 46 v1) (hd1 : DataW.Trod enc Try.prog W 0 (fun _ => true) true 46 v1 d1 p1) :
    Calls Try.prog 6 #[v0, v1] W fun e W' => e = .returned (.bool true) ∧ Below W.heap.size W W' := by
  obtain ⟨a, n, c, At, O, Ln, Cp, By, rfl, hP, hn, _⟩ := open_pieces hv0 hd0
  obtain ⟨t, o, m, cp, L, rfl, hL, h1, h2⟩ := open_piece hv1 hd1
  exact cartOver_calls a n c At O Ln Cp By t o m cp L W hn hP hL (Nat.le_trans h1 h2)
end
end Go.Proofs.Ytafabjmeeccifaa
