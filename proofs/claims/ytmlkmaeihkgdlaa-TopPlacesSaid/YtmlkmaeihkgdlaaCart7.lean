/-
  gannetref04: Same; cart: Read, Word.
-/
import Derived.Test.YtmlkmaeihkgdlaaCart1
import Derived.Test.YtmlkmaeihkgdlaaOct
import Derived.Test.YtmlkmaeihkgdlaaPhys
import Derived.Deep.RegionHeld3
namespace Go.Proofs.Ytmlkmaeihkgdlaa
open Go.RowKit Pl

/-- The byte at an address. -/
def rdR (n : Nat) (F : Nat → Int) (a : Nat) : Int := if whr a = 0 ∧ a % 2097152 < n then F (a % 2097152) else 255
theorem ctRead_calls (n c a : Nat) (o : Option Addr) (F : Nat → Int) (w : World) (hn : n ≤ 281474976710656) (ha : a < 4294967296) (hL : NumsAt w .u8 o n F) :
    Calls Try.prog 10 #[.slice o n c, .int .u32 (a : Int)] w fun e w' => e = .returned (.int .u8 (rdR n F a)) ∧ Below w.heap.size w w' := by
  have hB := bnk_lt a
  have hback : adr (bnk a) (a % 8192) = a % 2097152 := adr_back a
  have had := fun W => phAddr_calls (bnk a) (a % 8192) W hB (by omega)
  rw [hback] at had
  obtain ⟨x, hx⟩ : ∃ x, a % 2097152 = x := ⟨_, rfl⟩
  rw [hx] at had
  have hx2 : x < 2097152 := by omega
  obtain ⟨y, hy⟩ : ∃ y, a % 8192 = y := ⟨_, rfl⟩
  have hof := fun W => phOff_calls a W ha
  rw [hy] at had hof
  have hrd : rdR n F a = if whr a = 0 ∧ x < n then F x else 255 := by unfold rdR; rw [hx]
  rw [hrd]
  obtain ⟨z, hz⟩ : ∃ z, whr a = z := ⟨_, rfl⟩
  have hwh := fun W => phWhere_calls a W ha
  rw [hz] at hwh ⊢
  have hxi : (x : Int) < 2097152 := by omega
  clear hback hrd hz hx hy
  by_cases h1 : z = 0
  · subst h1
    by_cases h2 : x < n
    · rw [if_pos ⟨rfl, h2⟩]
      have i1 : (decide ((n : Int) ≤ (x : Int))) = false := by rw [decide_eq_false_iff_not]; omega
      have i2 : (x : Int) < (n : Int) := by omega
      go_enter Try.func10, Try.ntmps10
      (go_wp2_with fail; refine Cl.p (phBank_calls a _ ha) ?_)
      (go_wp2_with fail; refine Cl.p (hof _) ?_)
      (go_wp2_with fail; refine Cl.p (had _) ?_)
      go_wp2_with fail
      refine Cl.m (hwh _) ?_
      intro w1 hb1
      obtain ⟨b, off, rfl, hlt, hc⟩ := hL.below hb1 (Nat.le_refl _) x h2
      clear had hof hwh hL hn
      have i1' : (decide (n ≤ x)) = false := by rw [decide_eq_false_iff_not]; omega
      rw [show ((0 : Nat) : Int) = 0 from rfl]
      go_wp2_with fail
      go_ret
      exact ⟨rfl, hb1⟩
    · rw [if_neg (fun h => h2 h.2)]
      have i1 : (n : Int) ≤ (x : Int) := by omega
      go_enter Try.func10, Try.ntmps10
      (go_wp2_with fail; refine Cl.p (phBank_calls a _ ha) ?_)
      (go_wp2_with fail; refine Cl.p (hof _) ?_)
      (go_wp2_with fail; refine Cl.p (had _) ?_)
      go_wp2_with fail
      refine Cl.m (hwh _) ?_
      intro w1 hb1
      go_wp2_with fail
      go_ret
      exact ⟨rfl, hb1⟩
  · rw [if_neg (fun h => h1 h.1)]
    have i0 : ((z : Int) != 0) = true := by rw [bne_iff_ne]; omega
    go_enter Try.func10, Try.ntmps10
    (go_wp2_with fail; refine Cl.p (phBank_calls a _ ha) ?_)
    (go_wp2_with fail; refine Cl.p (hof _) ?_)
    (go_wp2_with fail; refine Cl.p (had _) ?_)
    go_wp2_with fail
    refine Cl.m (hwh _) ?_
    intro w1 hb1
    go_wp2_with fail
    go_ret
    exact ⟨rfl, hb1⟩
theorem whr_low (a : Nat) (h : a < 8192) : whr a = 0 := whr_rom a (by unfold bnk; omega)
theorem rdR_low (n : Nat) (F : Nat → Int) (a : Nat) (h : a < 8192) (hn : 8192 ≤ n) : rdR n F a = F a := by
  unfold rdR
  rw [whr_low a h, show a % 2097152 = a from by omega, if_pos ⟨rfl, by omega⟩]
end Go.Proofs.Ytmlkmaeihkgdlaa
