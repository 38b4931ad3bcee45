/-
  gannetref01.Same.
-/
import Derived.Test.YtjgobmgoidioiaaOnly
namespace Go.Proofs.Ytjgobmgoidioiaa
open Go.RowKit

/-- Alike. -/
theorem refSame_calls (a b : Option Addr) (la lb ca cb : Nat) (f g : Nat → Int) (w : World) (hf : NumsAt w .u8 a la f) (hg : NumsAt w .u8 b lb g) (hla : la ≤ maxLen) (_hlb : lb ≤ maxLen)
    (hl : la = lb) (hfg : ∀ i, i < la → f i = g i) :
    Calls Try.prog 23 #[.slice a la ca, .slice b lb cb] w fun e w' => e = .returned (.bool true) ∧ Below w.heap.size w w' := by
  subst hl
  unfold maxLen at hla
  go_enter Try.func23, Try.ntmps23
  go_wp2_with fail
  go_loopw [5] (fun i wr => ∃ n q : Nat, n ≤ la ∧ i = .int .i64 (n : Int) ∧ wr = w.drewN q) (fun i _ => la - (intOf i).toNat)
  case atStart => exact ⟨0, 0, by omega, rfl, rfl⟩
  case round =>
    obtain ⟨n, q, hn, rfl, rfl⟩ := hrel
    by_cases hlt : n < la
    · have hlt' : (n : Int) < (la : Int) := by omega
      obtain ⟨bf_, of_, rfl, _, hcf⟩ := hf n hlt
      obtain ⟨bg, og, rfl, _, hcg⟩ := hg n hlt
      have he := hfg n hlt
      rw [← he] at hcg
      clear hf hg hfg he
      go_wp2_with fail
      go_quiet (fail)
      go_wp2_with fail
      go_roundw
      case rel => exact ⟨n + 1, _, by omega, by go_num, rfl⟩
      case measure => simp [intOf]; omega
    · obtain rfl : n = la := by omega
      go_wp2_with fail
      go_ret
      exact ⟨rfl, below_drewN (Below.refl _ _) _⟩
end Go.Proofs.Ytjgobmgoidioiaa
