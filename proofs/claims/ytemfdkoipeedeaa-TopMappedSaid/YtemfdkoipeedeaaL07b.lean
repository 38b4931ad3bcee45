/-
  gannetlaw07: play.
-/
import Derived.Test.YtemfdkoipeedeaaL07
namespace Go.Proofs.Ytemfdkoipeedeaa
set_option linter.unusedSimpArgs false
set_option linter.unusedVariables false
set_option maxRecDepth 10000
open Go.RowKit

/-- Steps, in blocks below B. -/
def StpB (w : World) (a : Option Addr) (n : Nat) (T : Nat → Int) (K : Nat → Bool) (B : Nat) : Prop :=
  ∀ i, i < n → ∃ b off, a = some ⟨b, off, none⟩ ∧ b < B ∧ w.cell? ⟨b, off + i * 2, none⟩ = some (.int .i64 (T i)) ∧ w.cell? ⟨b, off + i * 2 + 1, none⟩ = some (.bool (K i))
theorem StpB.only {S : Nat → Prop} {w w' : World} {a : Option Addr} {n : Nat} {T : Nat → Int} {K : Nat → Bool} {B : Nat} (h : StpB w a n T K B) (ho : Only S w w') (hs : ∀ j, j < B → ¬ S j) : StpB w' a n T K B := fun i hi => by
  obtain ⟨b, off, ha, hlt, h0, h1⟩ := h i hi
  have e := ho.block b (cell_lt h0) (hs b hlt)
  exact ⟨b, off, ha, hlt, (World.cell?_of_block e).trans h0, (World.cell?_of_block e).trans h1⟩
theorem StpB.mono {w : World} {a : Option Addr} {n : Nat} {T : Nat → Int} {K : Nat → Bool} {B B' : Nat} (h : StpB w a n T K B) (hb : B ≤ B') : StpB w a n T K B' := fun i hi => by
  obtain ⟨b, off, ha, hlt, r⟩ := h i hi
  exact ⟨b, off, ha, by omega, r⟩
theorem EdgB.only2 {w w' : World} {a : Option Addr} {n : Nat} {St : Nat → Int} {Ln : Nat → Nat} {Up : Nat → Bool} {B : Nat} {S : Nat → Prop} (h : EdgB w a n St Ln Up B) (ho : Only S w w') (hne : 0 < n → ∀ x, a = some x → ¬ S x.block) : EdgB w' a n St Ln Up w'.heap.size := fun i hi => by
  obtain ⟨b, off, ha, hlt, h0, h1, h2⟩ := h i hi
  have e := ho.block b (cell_lt h0) (hne (by omega) _ ha)
  exact ⟨b, off, ha, Nat.lt_of_lt_of_le (cell_lt h0) ho.size, (World.cell?_of_block e).trans h0, (World.cell?_of_block e).trans h1, (World.cell?_of_block e).trans h2⟩
theorem upE_none {n : Nat} {Ln : Nat → Nat} {Up : Nat → Bool} {k : Nat} (hk : 4 ≤ k) (h : ∀ i, i < n → Ln i < 4) : ∀ s, s ≤ n → upE Ln Up k s = false
  | 0, _ => rfl
  | s + 1, hs => by
    have := h s (by omega)
    show (if Ln s = k then Up s else upE Ln Up k s) = false
    rw [if_neg (by omega)]
    exact upE_none hk h s (by omega)
theorem upK_upE {n : Nat} {St : Nat → Int} {Ln : Nat → Nat} {Up : Nat → Bool} (k s : Nat) (hok : EdgOk n St Ln) (hs : s ≤ n) : upE Ln Up k s = upK Ln Up k s := by
  unfold upK
  by_cases hk : k < 4
  · rw [if_pos hk]
  · rw [if_neg hk]
    exact upE_none (by omega) (fun i hi => (hok.2 i hi).1) s hs
theorem only_drewN {S : Nat → Prop} {w w' : World} (h : Only S w w') (q : Nat) : Only S w (w'.drewN q) := ⟨h.os, h.tape, h.output, h.size, h.block⟩
theorem lnTo_n (g : Nat) (o : Option Addr) (n c s : Nat) (St : Nat → Int) (Ln : Nat → Nat) (Up : Nat → Bool) (r : Bool) (stamp : Int) (w : World) (hok : EdgOk n St Ln) (hs : s ≤ n) (hL : LB w g o n c s Ln Up r) (hE : EdgB w o n St Ln Up w.heap.size) (hne : 0 < n → ∀ x, o = some x → x.block ≠ g) :
    Calls Try.prog 55 #[.pointer (some ⟨g, 0, none⟩), .int .i64 stamp] w fun e w' => (∃ v, e = .returned v) ∧
      LB w' g o n c (toE St Ln Up stamp (n - s) s r).1 Ln Up (toE St Ln Up stamp (n - s) s r).2 ∧ Only (fun j => j = g) w w' := by
  by_cases hn : 0 < n
  · exact lnTo_calls g o n c s St Ln Up r stamp w hok hs hL hE (hne hn)
  · obtain rfl : n = 0 := by omega
    obtain rfl : s = 0 := by omega
    go_enter Try.func55, Try.ntmps55
    go_wp2_with fail
    go_loopw [4, 5] (fun _ _ wr => wr = w) (fun _ _ wr => 0)
    case atStart => rfl
    case round =>
      subst hrel
      go_wp2_with fail
      refine (lnNext_none g o 0 c 0 Ln Up r _ hL (Nat.le_refl _)).mono ?_
      rintro e w1 ⟨rfl, nq, rfl⟩
      go_wp2_with fail
      (try simp only [Exit.inBlock, Exit.then])
      refine bodyPost_ret (results_none rfl _ _ _) rfl ?_
      exact ⟨⟨_, rfl⟩, hL, only_drewN (Only.refl _ _) nq⟩
end Go.Proofs.Ytemfdkoipeedeaa
