/-
  Package phys: Addr, Bank, Off, units, Where, Extra, Reg.
-/
import Derived.Test.YtjaibacpojpfhaaArr
import Derived.Test.YtjaibacpojpfhaaBphys
import Derived.Test.YtjaibacpojpfhaaTac
namespace Go.Proofs.Ytjaibacpojpfhaa
open Go.RowKit Pl

theorem phAddr_calls (b o : Nat) (w : World) (hb : b < 256) (ho : o < 65536) :
    Calls Try.prog 31 #[.int .u8 (b : Int), .int .u16 (o : Int)] w fun e w' => e = .returned (.int .u32 (adr b o : Nat)) ∧ w = w' := by
  have h1 : bits .and .u32 (o : Int) 8191 = ((o % 8192 : Nat) : Int) := by
    rw [show (8191 : Int) = ((8191 : Nat) : Int) from rfl, u32_and_nat _ _ (by omega) (by omega), and_8191]
  have h2 : bits .or .u32 ((b * 8192 : Nat) : Int) ((o % 8192 : Nat) : Int) = ((adr b o : Nat) : Int) := by
    rw [u32_or_nat _ _ (by omega) (by omega), adr_or]
  go_enter Try.func31, Try.ntmps31
  go_wp2
  go_ret
  exact ⟨ret_int (by rw [← h2]; first | rfl | (congr 1; omega)), rfl⟩
theorem phBank_calls (a : Nat) (w : World) (ha : a < 4294967296) :
    Calls Try.prog 29 #[.int .u32 (a : Int)] w fun e w' => e = .returned (.int .u8 (bnk a : Nat)) ∧ w = w' := by
  go_enter Try.func29, Try.ntmps29
  go_wp2
  go_ret
  exact ⟨ret_int (by unfold bnk; first | rfl | (rw [IntKind.wrap_u8]; omega) | omega), rfl⟩
theorem phOff_calls (a : Nat) (w : World) (ha : a < 4294967296) :
    Calls Try.prog 30 #[.int .u32 (a : Int)] w fun e w' => e = .returned (.int .u16 ((a % 8192 : Nat) : Int)) ∧ w = w' := by
  have h1 : bits .and .u32 (a : Int) 8191 = ((a % 8192 : Nat) : Int) := by
    rw [show (8191 : Int) = ((8191 : Nat) : Int) from rfl, u32_and_nat _ _ (by omega) (by omega), and_8191]
  go_enter Try.func30, Try.ntmps30
  go_wp2
  go_ret
  exact ⟨ret_int (by first | rfl | (rw [IntKind.wrap_u16]; omega) | omega), rfl⟩
theorem whr_rom (a : Nat) (h : bnk a < 128) : whr a = 0 := by unfold whr whB; rw [if_pos h]
theorem whr_ram (a : Nat) (h : 248 ≤ bnk a) (h2 : bnk a ≤ 251) : whr a = 1 := by unfold whr whB; rw [if_neg (by omega), if_pos ⟨h, h2⟩]
theorem whr_no (a : Nat) (h : 128 ≤ bnk a) (h2 : bnk a < 248 ∨ 251 < bnk a) (h3 : bnk a ≠ 255) : whr a = 2 := by unfold whr whB; rw [if_neg (by omega), if_neg (by omega), if_neg h3]
theorem whr_hard (a : Nat) (h : bnk a = 255) : whr a = whO (a % 8192) := by unfold whr whB; rw [if_neg (by omega), if_neg (by omega), if_pos h]
end Go.Proofs.Ytjaibacpojpfhaa
