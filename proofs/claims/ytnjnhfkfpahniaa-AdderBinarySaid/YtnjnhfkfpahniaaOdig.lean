/-
  Package octet: Pack, Unpack, digits, value, FromHex, Hex.
-/
import Derived.Test.YtnjnhfkfpahniaaCore
import Derived.Test.YtnjnhfkfpahniaaMake
import Derived.Test.YtnjnhfkfpahniaaBhex
import Derived.Laws.IdiomStrings
import Derived.Deep.DeepCutAuto
namespace Go.Proofs.Ytnjnhfkfpahniaa
open Go.RowKit Pl

theorem ret_ints {k l : IntKind} {a a' b b' : Int} (h : a = a') (h2 : b = b') : Ending.returned (.tuple #[.int k a, .int l b]) = .returned (.tuple #[.int k a', .int l b']) := by rw [h, h2]
theorem str_at' (s : ByteArray) (k : Nat) (h : k < s.size) : s.toList[k]? = some s[k] := by
  rw [ByteArray.toList_eq, List.getElem?_eq_getElem (by simpa using h)]
  rfl
theorem str_len (s : ByteArray) : s.toList.length = s.size := by rw [ByteArray.toList_eq]; simp

/-- What packing, and unpacking, answer. -/
def packV (n : Int) : Value := if n < 0 ∨ 99 < n then .tuple #[.int .u8 0, .int .i64 1] else .tuple #[.int .u8 (n / 10 * 16 + n % 10), .int .i64 0]
def unpackV (b : Nat) : Value := if 9 < b / 16 ∨ 9 < b % 16 then .tuple #[.int .i64 0, .int .i64 3] else .tuple #[.int .i64 (((b / 16 * 10 + b % 16 : Nat)) : Int), .int .i64 0]
def valueV (c : UInt8) : Value := match hv c with | some d => .tuple #[.int .u32 (d : Int), .bool true] | none => .tuple #[.int .u32 0, .bool false]

theorem octPack_calls (n : Int) (w : World) (_h1 : -9223372036854775808 ≤ n) (_h2 : n ≤ 9223372036854775807) :
    Calls Try.prog 31 #[.int .i64 n] w fun e w' => e = .returned (packV n) ∧ w = w' := by
  by_cases h1 : n < 0
  · go_enter Try.func31, Try.ntmps31
    go_wp2
    go_ret2
    exact ⟨by unfold packV; rw [if_pos (.inl h1)]; rfl, rfl⟩
  · by_cases h2 : 100 ≤ n
    · go_enter Try.func31, Try.ntmps31
      go_wp2
      go_ret2
      exact ⟨by unfold packV; rw [if_pos (.inr (by omega))]; rfl, rfl⟩
    · go_enter Try.func31, Try.ntmps31
      go_wp2
      go_ret2
      exact ⟨by unfold packV; rw [if_neg (by omega)]; exact ret_ints (by first | rfl | omega | (rw [IntKind.wrap_u8]; omega)) rfl, rfl⟩








end Go.Proofs.Ytnjnhfkfpahniaa
