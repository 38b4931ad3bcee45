/-
  Package port; gannetref10.
-/
import Derived.Test.YtemfdkoipeedeaaFeed
namespace Go.Proofs.Ytemfdkoipeedeaa
set_option linter.unusedSimpArgs false
set_option linter.unusedVariables false
set_option maxRecDepth 10000
open Go.RowKit

/-- Both lines, and the pad, behind a byte. -/
def ptS (b : Nat) : Nat := b % 4
def ptD (s d b : Nat) : Nat := if b / 2 % 2 = 1 then 0 else if b % 2 = 1 ∧ s % 2 = 0 then (if d < 5 then d + 1 else 5) else d
theorem ptD_le (s d b : Nat) (h : d ≤ 5) : ptD s d b ≤ 5 := by unfold ptD; repeat (first | omega | split)
theorem and1_all : ∀ b : Nat, b < 256 → bits .and .u8 (b : Int) 1 = ((b % 2 : Nat) : Int) := by decide +kernel
theorem and2_all : ∀ b : Nat, b < 256 → bits .and .u8 (b : Int) 2 = ((b / 2 % 2 * 2 : Nat) : Int) := by decide +kernel
theorem and3_all : ∀ b : Nat, b < 256 → bits .and .u8 (b : Int) 3 = ((b % 4 : Nat) : Int) := by decide +kernel
theorem and15_all : ∀ b : Nat, b < 256 → bits .and .u8 (b : Int) 15 = ((b % 16 : Nat) : Int) := by decide +kernel
theorem or176_all : ∀ b : Nat, b < 16 → bits .or .u8 176 (b : Int) = ((176 + b : Nat) : Int) := by decide +kernel
/-- A port: its feed's block gf. -/
def PB (w : World) (g gf s d : Nat) : Prop := Blk w g 108 #[.pointer (some ⟨gf, 0, none⟩), .int .u8 (s : Int), .int .i64 (d : Int)]
set_option maxHeartbeats 4000000 in
theorem ptWrite_calls (g gf s d b : Nat) (w : World) (hb : b < 256) (hs : s < 4) (hd : d ≤ 5) (hP : PB w g gf s d) :
    Calls Try.prog 60 #[.pointer (some ⟨g, 0, none⟩), .int .u8 (b : Int)] w fun e w' => (∃ v, e = .returned v) ∧ PB w' g gf (b % 4) (ptD s d b) ∧ Only (fun k => k = g) w w' := by
  have a1 := and1_all b hb
  have a2 := and2_all b hb
  have a3 := and3_all b hb
  have a4 := and1_all s (by omega)
  have hc1 : w.cell? ⟨g, 1, none⟩ = some (.int .u8 (s : Int)) := hP.cell 1
  have hc2 : w.cell? ⟨g, 2, none⟩ = some (.int .i64 (d : Int)) := hP.cell 2
  have hf1 := hP.frozen 1
  have hf2 := hP.frozen 2
  have m2 : b / 2 % 2 = 0 ∨ b / 2 % 2 = 1 := by omega
  have m1 : b % 2 = 0 ∨ b % 2 = 1 := by omega
  have ms : s % 2 = 0 ∨ s % 2 = 1 := by omega
  have hD0 : b / 2 % 2 = 1 → ptD s d b = 0 := fun h => if_pos h
  have hD1 : b / 2 % 2 = 0 → (b % 2 = 0 ∨ s % 2 = 1) → ptD s d b = d := fun h h' => by unfold ptD; rw [if_neg (by omega), if_neg (by omega)]
  have hD2 : b / 2 % 2 = 0 → b % 2 = 1 → s % 2 = 0 → d < 5 → ptD s d b = d + 1 := fun h h' h'' h3 => by unfold ptD; rw [if_neg (by omega), if_pos ⟨h', h''⟩, if_pos h3]
  have hD3 : b / 2 % 2 = 0 → b % 2 = 1 → s % 2 = 0 → ¬ d < 5 → ptD s d b = 5 := fun h h' h'' h3 => by unfold ptD; rw [if_neg (by omega), if_pos ⟨h', h''⟩, if_neg h3]
  have H0 := hide hD0
  have H1 := hide hD1
  have H2 := hide hD2
  have H3 := hide hD3
  clear hD0 hD1 hD2 hD3
  have f1 : ∀ X : Int, X = ((b % 4 : Nat) : Int) → PB (w.setCell ⟨g, 1, none⟩ (.int .u8 X)) g gf (b % 4) d := by
    rintro X rfl
    exact hP.set_ 1 _
  have f2 : ∀ (X Y : Int) (d' : Nat), X = ((b % 4 : Nat) : Int) → Y = (d' : Int) → PB ((w.setCell ⟨g, 1, none⟩ (.int .u8 X)).setCell ⟨g, 2, none⟩ (.int .i64 Y)) g gf (b % 4) d' := by
    rintro X Y d' rfl rfl
    exact (hP.set_ 1 _).set_ 2 _
  have o1 : ∀ X : Value, Only (fun k => k = g) w (w.setCell ⟨g, 1, none⟩ X) := fun X => Only.setCell (S := fun k => k = g) (Only.refl _ _) ⟨g, 1, none⟩ rfl _
  have o2 : ∀ X Y : Value, Only (fun k => k = g) w ((w.setCell ⟨g, 1, none⟩ X).setCell ⟨g, 2, none⟩ Y) := fun X Y => Only.setCell (S := fun k => k = g) (o1 X) ⟨g, 2, none⟩ rfl _
  have F1 := hide f1
  have F2 := hide f2
  have O1 := hide o1
  have O2 := hide o2
  clear f1 f2 o1 o2
  rcases m2 with m2 | m2 <;> rcases m1 with m1 | m1 <;> rcases ms with ms | ms
  all_goals
    rw [m2] at a2
    rw [m1] at a1
    rw [ms] at a4
    go_enter Try.func60, Try.ntmps60
    go_wp2_with fail
    all_goals
      go_end0
      have h0 := H0.out
      have h1 := H1.out
      have h2 := H2.out
      have h3 := H3.out
      first
        | exact ⟨⟨_, rfl⟩, F2.out _ _ _ (by omega) (by omega), O2.out _ _⟩
        | (rw [h1 m2 (by omega)]; exact ⟨⟨_, rfl⟩, F1.out _ (by omega), O1.out _⟩)
end Go.Proofs.Ytemfdkoipeedeaa
