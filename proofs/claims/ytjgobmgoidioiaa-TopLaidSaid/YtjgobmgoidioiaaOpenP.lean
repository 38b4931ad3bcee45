/-
  Pieces that come in.
-/
import Derived.Test.YtjgobmgoidioiaaCart1
import Derived.Test.YtjgobmgoidioiaaOpen
import Derived.Test.YtjgobmgoidioiaaOpenS
namespace Go.Proofs.Ytjgobmgoidioiaa
set_option linter.unusedSimpArgs false
set_option linter.unusedVariables false
open Go.RowKit Pl

def sA : Value → Option Addr
  | .slice a _ _ => a
  | _ => none
def sN : Value → Nat
  | .slice _ n _ => n
  | _ => 0
def sC : Value → Nat
  | .slice _ _ c => c
  | _ => 0
def sB (W : World) (v : Value) (j : Nat) : Int := match sA v with
  | some a => cellInt ((W.cell? (a.add j)).getD undef)
  | none => 0
section
open Go.ChangeShapes Go.WideShapes Go.ChangeAt
variable {H : Type} {enc : TypeId × Value → H} {W : World} {base : Nat}
theorem field_bytes {v : Value} {n : Nat} {y : DataW H × List MemPlace} (h : DataW.trod enc Try.prog W 0 (fun _ => true) true n 27 [v] = some y) :
    v = .slice (sA v) (sN v) (sC v) ∧ NumsAt W .u8 (sA v) (sN v) (sB W v) ∧ sN v ≤ sC v ∧ sC v ≤ maxLen := by
  rcases open_ints Try.underlying27 Try.underlying5 (by kernel_rfl) h with ⟨hcs, _⟩ | ⟨x, l, c, zs, hcs, _, hl, hm, hz, _, hcell, hwz⟩
  · injection hcs with hcs
    subst hcs
    exact ⟨rfl, fun i hi => absurd hi (by simp [sN]), Nat.le_refl _, by simp [sC, maxLen]⟩
  · injection hcs with hcs
    subst hcs
    have hlen : l ≤ zs.length := by rw [hz]; split <;> omega
    refine ⟨rfl, fun i hi => ?_, hl, hm⟩
    have hi : i < l := hi
    have hci := hcell i (by omega)
    have hc0 := hcell 0 (by omega)
    obtain ⟨b, off, spot⟩ := x
    have hspot : spot = none := by simpa [Addr.add] using World.cell?_spot hc0
    subst hspot
    rw [add_plain] at hci
    refine ⟨b, off, rfl, cell_lt hci, ?_⟩
    show _ = some (Value.int .u8 (sB W (.slice (some ⟨b, off, none⟩) l c) i))
    unfold sB
    simp only [sA]
    rw [add_plain, hci]
    rfl
theorem open_pieces {v : Value} {d : DataW H} {p : List MemPlace} (hv : Value.okWide Try.prog W .any base 22 v) (hd : DataW.Trod enc Try.prog W 0 (fun _ => true) true 22 v d p) :
    ∃ (a : Option Addr) (len cap : Nat) (At : Nat → Int) (O : Nat → Option Addr) (Ln Cp : Nat → Nat) (By : Nat → Nat → Int), v = .slice a len cap ∧ PieB W a len At O Ln Cp By W.heap.size ∧ len ≤ maxLen ∧ (∀ i, i < len → -9223372036854775808 ≤ At i ∧ At i ≤ 9223372036854775807 ∧ Ln i ≤ Cp i ∧ Cp i ≤ maxLen) := by
  obtain ⟨a, len, cap, C, rfl, hr, hl, hm, hf⟩ := open_rows Try.underlying22 Try.underlying48 (by kernel_rfl) (by kernel_rfl) (by decide) hv hd
  refine ⟨a, len, cap, fun i => cellInt (C i 0), fun i => sA (C i 1), fun i => sN (C i 1), fun i => sC (C i 1), fun i => sB W (C i 1), rfl, fun i hi => ?_, Nat.le_trans hl hm, fun i hi => ?_⟩
  · obtain ⟨b, off, rfl, hlt, hc⟩ := hr i hi
    obtain ⟨_, _, h0⟩ := hf i hi 0 _ rfl
    obtain ⟨_, _, h1⟩ := hf i hi 1 _ rfl
    obtain ⟨s, hs, _⟩ := field_i64 Try.underlying3 h0
    obtain ⟨q1, q2, q3, q4⟩ := field_bytes h1
    have c0 := hc 0 (by decide)
    have c1 := hc 1 (by decide)
    rw [hs] at c0
    refine ⟨b, off, rfl, hlt, ?_, ?_, q2.toB (Nat.le_refl _)⟩
    · simp only [hs, cellInt]; exact c0
    · rw [Nat.add_assoc, ← q1]; exact c1
  · obtain ⟨_, _, h0⟩ := hf i hi 0 _ rfl
    obtain ⟨_, _, h1⟩ := hf i hi 1 _ rfl
    obtain ⟨s, hs, s1, s2⟩ := field_i64 Try.underlying3 h0
    obtain ⟨q1, q2, q3, q4⟩ := field_bytes h1
    simp only [hs, cellInt]
    exact ⟨s1, s2, q3, q4⟩
end
end Go.Proofs.Ytjgobmgoidioiaa
