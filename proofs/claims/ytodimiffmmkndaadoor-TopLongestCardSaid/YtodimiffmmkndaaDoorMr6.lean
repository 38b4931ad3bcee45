/-
  What holds of all 256 bytes' programs (by the kernel).
-/
import Derived.Test.YtodimiffmmkndaaDoorMr5
namespace Go.Proofs.YtodimiffmmkndaaDoor
set_option linter.unusedSimpArgs false
set_option linter.unusedVariables false
set_option maxRecDepth 10000
open Go.RowKit Go.Shelf Pl
/-- How many bytes an instruction has. -/
noncomputable def sizB (b : Nat) : Nat := (1 + behM (modeB b)).toNat
theorem sizB_eq (b : Nat) : 1 + behM (modeB b) = (sizB b : Int) := by
  have := behM_le (modeB b)
  unfold sizB
  omega
theorem sizB_le (b : Nat) : 1 ≤ sizB b ∧ sizB b ≤ 7 := by
  have := behM_le (modeB b)
  unfold sizB
  omega
def parse : Nat → List UInt8 → List OpM
  | f + 1, a :: t :: n :: c :: r => (a, ltr t, ltr n, c == 33) :: parse f (r.drop 1)
  | _, _ => []
def chkV (s : ByteArray) (q z : Nat) (cy : Int) (P : List UInt8) (L : List OpM) (l : Nat) : Bool :=
  TX L == P && L.all okS && decide (0 < L.length) && decide (L.length ≤ 30) && decide (szM L = l) && decide (cy ≤ (l : Int)) && decide (0 < l) && decide (q = 0 → 2 ≤ cy ∧ cy ≤ 22) && decide ((q = 0 ∨ q = 1 ∨ q = 11) → (nmdS s).2 = false → (z : Int) ≤ cy ∧ cy ≤ 22)
noncomputable def chk (b : Nat) : Bool :=
  chkV (nameS (nmB b)) (modeB b) (sizB b) (cycM (nameS (nmB b)) (modeB b)) (prgS (nameS (nmB b)) (modeB b) (sizB b) (cycM (nameS (nmB b)) (modeB b))).data.toList
    (parse 30 (prgS (nameS (nmB b)) (modeB b) (sizB b) (cycM (nameS (nmB b)) (modeB b))).data.toList) (allS (nameS (nmB b)) (modeB b) (sizB b) (cycM (nameS (nmB b)) (modeB b))).length
theorem chk0 : ∀ b, b < 16 → chk (0 + b) = true := by decide +kernel
theorem chk1 : ∀ b, b < 16 → chk (16 + b) = true := by decide +kernel
theorem chk2 : ∀ b, b < 16 → chk (32 + b) = true := by decide +kernel
theorem chk3 : ∀ b, b < 16 → chk (48 + b) = true := by decide +kernel
theorem chk4 : ∀ b, b < 16 → chk (64 + b) = true := by decide +kernel
theorem chk5 : ∀ b, b < 16 → chk (80 + b) = true := by decide +kernel
theorem chk6 : ∀ b, b < 16 → chk (96 + b) = true := by decide +kernel
theorem chk7 : ∀ b, b < 16 → chk (112 + b) = true := by decide +kernel
theorem chk8 : ∀ b, b < 16 → chk (128 + b) = true := by decide +kernel
theorem chk9 : ∀ b, b < 16 → chk (144 + b) = true := by decide +kernel
theorem chk10 : ∀ b, b < 16 → chk (160 + b) = true := by decide +kernel
theorem chk11 : ∀ b, b < 16 → chk (176 + b) = true := by decide +kernel
theorem chk12 : ∀ b, b < 16 → chk (192 + b) = true := by decide +kernel
theorem chk13 : ∀ b, b < 16 → chk (208 + b) = true := by decide +kernel
theorem chk14 : ∀ b, b < 16 → chk (224 + b) = true := by decide +kernel
theorem chk15 : ∀ b, b < 16 → chk (240 + b) = true := by decide +kernel
theorem chk_all (b : Nat) (hb : b < 256) : chk b = true := by
  obtain ⟨r, hr⟩ : ∃ r, b % 16 = r := ⟨_, rfl⟩
  have hr16 : r < 16 := by omega
  have h : b = 0 + r ∨ b = 16 + r ∨ b = 32 + r ∨ b = 48 + r ∨ b = 64 + r ∨ b = 80 + r ∨ b = 96 + r ∨ b = 112 + r ∨ b = 128 + r ∨ b = 144 + r ∨ b = 160 + r ∨ b = 176 + r ∨ b = 192 + r ∨ b = 208 + r ∨ b = 224 + r ∨ b = 240 + r := by omega
  rcases h with rfl | rfl | rfl | rfl | rfl | rfl | rfl | rfl | rfl | rfl | rfl | rfl | rfl | rfl | rfl | rfl
  · exact chk0 r hr16
  · exact chk1 r hr16
  · exact chk2 r hr16
  · exact chk3 r hr16
  · exact chk4 r hr16
  · exact chk5 r hr16
  · exact chk6 r hr16
  · exact chk7 r hr16
  · exact chk8 r hr16
  · exact chk9 r hr16
  · exact chk10 r hr16
  · exact chk11 r hr16
  · exact chk12 r hr16
  · exact chk13 r hr16
  · exact chk14 r hr16
  · exact chk15 r hr16
end Go.Proofs.YtodimiffmmkndaaDoor
