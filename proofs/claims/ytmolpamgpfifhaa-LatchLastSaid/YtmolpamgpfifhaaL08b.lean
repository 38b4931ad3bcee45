/-
  latch: New, Value, Write, Read.
-/
import Derived.Test.YtmolpamgpfifhaaL08a
namespace Go.Proofs.Ytmolpamgpfifhaa
open Go.RowKit Pl

theorem latNew_calls (b : Nat) (w : World) :
    Calls Try.prog 7 #[.int .u8 (b : Int)] w fun e w' => e = .returned (.pointer (some ⟨w.heap.size, 0, none⟩)) ∧ w.alloc (.cells #[.int .u8 (b : Int)] 41) = w' := by
  go_enter Try.func7, Try.ntmps7
  go_wp2
  go_ret
  exact ⟨rfl, rfl⟩

theorem latValue_calls (g h : Nat) (w : World) (hc : w.cell? ⟨g, 0, none⟩ = some (.int .u8 (h : Int))) :
    Calls Try.prog 10 #[.pointer (some ⟨g, 0, none⟩)] w fun e w' => e = .returned (.int .u8 (h : Int)) ∧ w = w' := by
  go_enter Try.func10, Try.ntmps10
  go_wp2
  go_ret
  exact ⟨rfl, rfl⟩

theorem latValue_nil (w : World) :
    Calls Try.prog 10 #[.pointer none] w fun e w' => e = .returned (.int .u8 0) ∧ w = w' := by
  go_enter Try.func10, Try.ntmps10
  go_wp2
  go_ret
  exact ⟨rfl, rfl⟩

theorem latWrite_calls (g h b : Nat) (w : World) (hc : w.cell? ⟨g, 0, none⟩ = some (.int .u8 (h : Int))) (hf : w.frozen? ⟨g, 0, none⟩ = false) :
    Calls Try.prog 14 #[.pointer (some ⟨g, 0, none⟩), .int .u8 (b : Int)] w fun e w' => e = .returned (.tuple #[]) ∧ w.setCell ⟨g, 0, none⟩ (.int .u8 (b : Int)) = w' := by
  go_enter Try.func14, Try.ntmps14
  go_wp2
  go_end0
  exact ⟨rfl, rfl⟩

theorem latWrite_nil (b : Nat) (w : World) :
    Calls Try.prog 14 #[.pointer none, .int .u8 (b : Int)] w fun e w' => e = .returned (.tuple #[]) ∧ w = w' := by
  go_enter Try.func14, Try.ntmps14
  go_wp2
  go_end0
  exact ⟨rfl, rfl⟩

theorem mix_bits (h m b : Nat) (hh : h < 256) (hm : m < 256) (hb : b < 256) : bits .or .u8 (bits .andNot .u8 (h : Int) (m : Int)) (bits .and .u8 (b : Int) (m : Int)) = (mix h m b : Nat) := by
  rw [u8_andNot_nat h m hh hm, u8_and_nat b m hb hm, u8_or_nat _ _ (and_lt' hh) (and_lt hm)]
  rfl

theorem latRead_calls (g h m b : Nat) (w : World) (hh : h < 256) (hm : m < 256) (hb : b < 256) (hc : w.cell? ⟨g, 0, none⟩ = some (.int .u8 (h : Int))) (hf : w.frozen? ⟨g, 0, none⟩ = false) :
    Calls Try.prog 9 #[.pointer (some ⟨g, 0, none⟩), .int .u8 (m : Int), .int .u8 (b : Int)] w
      fun e w' => e = .returned (.int .u8 (mix h m b : Nat)) ∧ w.setCell ⟨g, 0, none⟩ (.int .u8 (mix h m b : Nat)) = w' := by
  have hmix := mix_bits h m b hh hm hb
  go_enter Try.func9, Try.ntmps9
  go_wp2_with (first
    | (go_at_call 10; refine (latValue_calls _ h _ (by assumption)).mono ?_; rintro e w' ⟨rfl, rfl⟩)
    | (go_at_call 14; refine (latWrite_calls _ h (mix h m b) _ (by assumption) (by assumption)).mono ?_; rintro e w' ⟨rfl, rfl⟩))
  go_ret
  exact ⟨rfl, rfl⟩

theorem latRead_nil (m b : Nat) (w : World) (hm : m < 256) (hb : b < 256) :
    Calls Try.prog 9 #[.pointer none, .int .u8 (m : Int), .int .u8 (b : Int)] w
      fun e w' => e = .returned (.int .u8 (mix 0 m b : Nat)) ∧ w = w' := by
  have hmix : bits .or .u8 (bits .andNot .u8 (0 : Int) (m : Int)) (bits .and .u8 (b : Int) (m : Int)) = (mix 0 m b : Nat) := mix_bits 0 m b (by omega) hm hb
  go_enter Try.func9, Try.ntmps9
  go_wp2_with (first
    | (go_at_call 10; refine (latValue_nil _).mono ?_; rintro e w' ⟨rfl, rfl⟩)
    | (go_at_call 14; refine (latWrite_nil (mix 0 m b) _).mono ?_; rintro e w' ⟨rfl, rfl⟩))
  go_ret
  exact ⟨rfl, rfl⟩
end Go.Proofs.Ytmolpamgpfifhaa
