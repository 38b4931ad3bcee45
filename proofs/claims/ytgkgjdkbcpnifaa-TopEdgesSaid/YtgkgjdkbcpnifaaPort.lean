/-
  Package port; gannetref10.
-/
import Derived.Test.YtgkgjdkbcpnifaaFeed
namespace Go.Proofs.Ytgkgjdkbcpnifaa
set_option linter.unusedSimpArgs false
set_option linter.unusedVariables false
set_option maxRecDepth 10000
open Go.RowKit

/-- Both lines, and the pad, behind a byte. -/
def ptS (b : Nat) : Nat := b % 4
def ptD (s d b : Nat) : Nat := if b / 2 % 2 = 1 then 0 else if b % 2 = 1 ∧ s % 2 = 0 then (if d < 5 then d + 1 else 5) else d
theorem ptD_le (s d b : Nat) (h : d ≤ 5) : ptD s d b ≤ 5 := by unfold ptD; repeat (first | omega | split)
theorem and1_all : ∀ b : Nat, b < 256 → bits .and .u8 (b : Int) 1 = ((b % 2 : Nat) : Int) := by decide +kernel
theorem and2_all : ∀ b : Nat, b < 256 → bits .and .u8 (b : Int) 2 = ((b / 2 % 2 * 2 : Nat) : Int) := by decide +kernel
theorem and3_all : ∀ b : Nat, b < 256 → bits .and .u8 (b : Int) 3 = ((b % 4 : Nat) : Int) := by decide +kernel
theorem and15_all : ∀ b : Nat, b < 256 → bits .and .u8 (b : Int) 15 = ((b % 16 : Nat) : Int) := by decide +kernel
theorem or176_all : ∀ b : Nat, b < 16 → bits .or .u8 176 (b : Int) = ((176 + b : Nat) : Int) := by decide +kernel
/-- A port: its feed's block gf. -/
def PB (w : World) (g gf s d : Nat) : Prop := Blk w g 84 #[.pointer (some ⟨gf, 0, none⟩), .int .u8 (s : Int), .int .i64 (d : Int)]
end Go.Proofs.Ytgkgjdkbcpnifaa
