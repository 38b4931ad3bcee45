/-
  moves: Kind of a name; gannetlaw26: live.
-/
import Derived.Test.YtifmlphfegppjaaMvall
import Derived.Test.YtifmlphfegppjaaSame
namespace Go.Proofs.Ytifmlphfegppjaa
open Go.RowKit

theorem mvRow_cells {W : World} {base : Nat} {v : Value} {N k f t : Nat} (h : W.ownsRow base 36 2 v N (mvCells k f t (List.range N))) (h0 : 0 < N) :
    ∃ g c, v = .slice (some ⟨g, 0, none⟩) N c ∧ base ≤ g ∧ ∀ i, i < N → W.cell? ⟨g, i * 2, none⟩ = some (.int .u16 (wyF k f i : Nat)) ∧ W.cell? ⟨g, i * 2 + 1, none⟩ = some (.int .u16 (wyT k t i : Nat)) := by
  obtain ⟨hl, h | ⟨g, cap, cur, rfl, hb, hh, hnn, hcap, hsz, htake⟩⟩ := h
  · exfalso
    have := h.2
    omega
  · refine ⟨g, cap, rfl, hb, fun i hi => ?_⟩
    have hc : ∀ (M : Nat), ∀ j, j < M → (mvCells k f t (List.range M))[j * 2]? = some (.int .u16 (wyF k f j : Nat)) ∧ (mvCells k f t (List.range M))[j * 2 + 1]? = some (.int .u16 (wyT k t j : Nat)) := by
      intro M
      induction M with
      | zero => intro j hj; omega
      | succ M ih =>
        intro j hj
        have hlen : (mvCells k f t (List.range M)).length = M * 2 := by
          have : ∀ q : List Nat, (mvCells k f t q).length = q.length * 2 := fun q => by
            induction q with
            | nil => rfl
            | cons x q ihq => show (_ ++ mvCells k f t q).length = _; rw [List.length_append, ihq]; simp; omega
          rw [this, List.length_range]
        rw [List.range_succ, mvCells_snoc]
        by_cases e : j = M
        · subst e
          rw [List.getElem?_append_right (by omega), List.getElem?_append_right (by omega), hlen]
          simp
        · obtain ⟨h1, h2⟩ := ih j (by omega)
          rw [List.getElem?_append_left (by omega), List.getElem?_append_left (by omega)]
          exact ⟨h1, h2⟩
    have hb' : Blk W g 36 cur := hh
    obtain ⟨h1, h2⟩ := hc N i hi
    rw [← htake, List.getElem?_take_of_lt (by omega), Array.getElem?_toList] at h1
    rw [← htake, List.getElem?_take_of_lt (by omega), Array.getElem?_toList] at h2
    exact ⟨(hb'.cell _).trans h1, (hb'.cell _).trans h2⟩
def nmA : Array Value := #[.string ⟨#[84, 73, 73]⟩, .string ⟨#[84, 68, 68]⟩, .string ⟨#[84, 73, 78]⟩, .string ⟨#[84, 73, 65]⟩, .string ⟨#[84, 65, 73]⟩]
def nmS : Nat → ByteArray | 0 => ⟨#[84, 73, 73]⟩ | 1 => ⟨#[84, 68, 68]⟩ | 2 => ⟨#[84, 73, 78]⟩ | 3 => ⟨#[84, 73, 65]⟩ | _ => ⟨#[84, 65, 73]⟩
set_option maxHeartbeats 2000000 in
theorem mvKind_calls (w : World) : Calls Try.prog 16 #[.string ⟨#[84, 65, 73]⟩] w fun e w' => e = .returned (.tuple #[.int .u8 4, .bool true]) ∧ w = w' := by
  have hix : ∀ (j : Nat), j < 5 → ∀ v, nmA[j]? = some v → ∀ W, (Instr.index 51 (.agg nmA) (.int .i64 (j : Int))).run Try.prog W = .ok v W := fun j hj v hv W =>
    run_index_row 51 9 5 Try.underlying51 (fun w => by rfl) (fun w => by rfl) nmA .i64 j hj v hv W
  go_enter Try.func16, Try.ntmps16
  go_wp2_with fail
  go_loopw [7] (fun i wr => ∃ j : Nat, j ≤ 4 ∧ i = .int .i64 (j : Int) ∧ wr = w) (fun i _ => 4 - (intOf i).toNat)
  case atStart => exact ⟨0, by omega, rfl, rfl⟩
  case round =>
    obtain ⟨j, hj, rfl, rfl⟩ := hrel
    have hx := hix j (by omega) (.string (nmS j)) (by
      have hj5 : j = 0 ∨ j = 1 ∨ j = 2 ∨ j = 3 ∨ j = 4 := by omega
      rcases hj5 with rfl | rfl | rfl | rfl | rfl <;> rfl)
    clear hix
    unfold nmA at hx
    by_cases h4 : j = 4
    · have hc : ((nmS j).toList == [84, 65, 73]) = true := by subst h4; decide +kernel
      generalize nmS j = s at *
      have H4 := hide h4
      clear h4
      go_wp2_with fail
      go_ret2
      rw [H4.out]
      exact ⟨rfl, rfl⟩
    · have hc : ((nmS j).toList == [84, 65, 73]) = false := by
        have hj5 : j = 0 ∨ j = 1 ∨ j = 2 ∨ j = 3 := by omega
        rcases hj5 with rfl | rfl | rfl | rfl <;> decide +kernel
      generalize nmS j = s at *
      go_wp2_with fail
      go_roundw
      case rel => exact ⟨j + 1, by omega, by go_num, trivial⟩
      case measure => simp [intOf]; omega
end Go.Proofs.Ytifmlphfegppjaa
