/-
  Package modes: Target, Distance.
-/
import Derived.Test.YtlojabeeonhceaaDoorMod2
namespace Go.Proofs.YtlojabeeonhceaaDoor
set_option linter.unusedSimpArgs false
set_option linter.unusedVariables false
set_option maxRecDepth 10000
open Go.RowKit Go.Shelf Pl
/-- Where a branch goes. -/
def tgt (p d : Nat) : Nat := (((p : Int) + sgn d) % 65536).toNat
theorem tgt_lt (p d : Nat) : tgt p d < 65536 := by unfold tgt; omega
theorem target_calls (p d : Nat) (w : World) (hp : p < 65536) (hd : d < 256) :
    Calls Tryd.prog 48 #[.int .u16 (p : Int), .int .u8 (d : Int)] w fun e w' => e = .returned (.int .u16 (tgt p d : Int)) ∧ w = w' := by
  have hs := octSigned_calls d w hd
  have ht : (tgt p d : Int) = ((p : Int) + sgn d) % 65536 := by unfold tgt; omega
  generalize tgt p d = t at *
  generalize sgn d = x at *
  have HT := hide ht
  clear ht
  go_enter Tryd.func48, Tryd.ntmps48
  go_wp2_with fail
  refine Cl.p hs ?_
  go_wp2_with fail
  go_ret
  exact ⟨by rw [HT.out]; first | rfl | (refine ret_int ?_; rw [IntKind.wrap_u16, IntKind.wrap_u16]; omega), rfl⟩
/-- No distance. -/
theorem distNo_calls (m n c : Nat) (a : Option Addr) (w : World) (hm : m < 20) (hn : (n : Int) = behM m) (h1 : m ≠ 11) (h2 : m ≠ 12) :
    Calls Tryd.prog 47 #[.int .u8 (m : Int), .slice a n c] w fun e w' => e = .returned (.tuple #[.int .u8 0, .bool false]) ∧ w = w' := by
  have hw := whole_calls m n c a w hm hn
  have i1 : ((m : Int) != 11) = true := by rw [bne_iff_ne]; omega
  have i2 : ((m : Int) != 12) = true := by rw [bne_iff_ne]; omega
  clear hn
  go_enter Tryd.func47, Tryd.ntmps47
  go_wp2_with fail
  refine Cl.p hw ?_
  go_wp2_with fail
  go_ret2
  exact ⟨rfl, rfl⟩
theorem distRel_calls (b o c : Nat) (B : Nat → Nat) (w : World) (hB : Byt w b o 1 B) :
    Calls Tryd.prog 47 #[.int .u8 11, .slice (some ⟨b, o, none⟩) 1 c] w fun e w' => e = .returned (.tuple #[.int .u8 (B 0 : Int), .bool true]) ∧ w = w' := by
  have hw := whole_calls 11 1 c (some ⟨b, o, none⟩) w (by omega) (by decide)
  have hc := (hB 0 (by omega)).1
  rw [Nat.add_zero] at hc
  clear hB
  go_enter Tryd.func47, Tryd.ntmps47
  go_wp2_with fail
  refine Cl.p hw ?_
  go_wp2_with fail
  go_ret2
  exact ⟨rfl, rfl⟩
theorem distZp_calls (b o c : Nat) (B : Nat → Nat) (w : World) (hB : Byt w b o 2 B) :
    Calls Tryd.prog 47 #[.int .u8 12, .slice (some ⟨b, o, none⟩) 2 c] w fun e w' => e = .returned (.tuple #[.int .u8 (B 1 : Int), .bool true]) ∧ w = w' := by
  have hw := whole_calls 12 2 c (some ⟨b, o, none⟩) w (by omega) (by decide)
  have hc := (hB 1 (by omega)).1
  clear hB
  go_enter Tryd.func47, Tryd.ntmps47
  go_wp2_with fail
  refine Cl.p hw ?_
  go_wp2_with fail
  go_ret2
  exact ⟨rfl, rfl⟩
end Go.Proofs.YtlojabeeonhceaaDoor
