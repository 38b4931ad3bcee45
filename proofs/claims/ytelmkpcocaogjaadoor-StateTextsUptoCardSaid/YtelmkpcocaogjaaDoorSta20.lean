/-
  Both readers answer alike, and read what was written. No program is stepped through here.
-/
import Derived.Test.YtelmkpcocaogjaaDoorSta17
import Derived.Test.YtelmkpcocaogjaaDoorSta19
namespace Go.Proofs.YtelmkpcocaogjaaDoor
set_option linter.unusedSimpArgs false
set_option linter.unusedVariables false
open Go.RowKit Pl

theorem txt_len8 (p : Nat) : (txt p).length = 8 := by simp [txt]
theorem twoP_at (s : List UInt8) (a n : Nat) (hn : n < 256) (h : (s.drop a).take 2 = hx n) : twoP s a = n := by
  unfold twoP
  rw [h]
  unfold hx
  rw [fh_hexT n 2 (by omega) (by omega) (by omega)]
  show n % 256 = n
  omega
theorem hx_mod (n : Nat) : hx n = hx (n % 256) := by
  have e1 : n / 16 ^ 1 % 16 = n % 256 / 16 ^ 1 % 16 := by omega
  have e0 : n / 16 ^ 0 % 16 = n % 256 / 16 ^ 0 % 16 := by omega
  simp only [hx, hexT]
  rw [e1, e0]
theorem txt_list (p : Nat) : ∃ a b c d e f g h, txt p = [a, b, c, d, e, f, g, h] := by
  have := txt_len8 p
  match txt p, this with
  | [a, b, c, d, e, f, g, h], _ => exact ⟨a, b, c, d, e, f, g, h, rfl⟩
theorem tS_list (R : Nat → Nat) : ∃ T, txt (R 4) = T ∧ tS R =
    [65, 61] ++ hx (R 0) ++ [32, 88, 61] ++ hx (R 1) ++ [32, 89, 61] ++ hx (R 2) ++ [32, 83, 61] ++ hx (R 3) ++ [32, 80, 61] ++ T ++ [32, 80, 67, 61] ++ hx (R 5 / 256) ++ hx (R 5) ++ [32, 77, 61] ++ hx (R 6) ++ [46] ++ hx (R 7) ++ [46] ++ hx (R 8) ++ [46] ++ hx (R 9) ++ [46] ++ hx (R 10) ++ [46] ++ hx (R 11) ++ [46] ++ hx (R 12) ++ [46] ++ hx (R 13) ++ [32, 76, 61] ++ hx (R 14) ++ [32] ++ spd (R 15) := by
  refine ⟨_, rfl, ?_⟩
  have e4 : hexT (R 5) 4 = hx (R 5 / 256) ++ hx (R 5) := by
    have a3 : R 5 / 16 ^ 3 % 16 = R 5 / 256 / 16 ^ 1 % 16 := by rw [Nat.div_div_eq_div_mul]
    have a2 : R 5 / 16 ^ 2 % 16 = R 5 / 256 / 16 ^ 0 % 16 := by rw [Nat.div_div_eq_div_mul]
    simp only [hx, hexT]
    rw [a3, a2]
    rfl
  unfold tS prt bkL
  rw [e4]
  simp only [join_two, Lib.join_one, List.append_assoc, List.cons_append, List.nil_append]
theorem posS_tS (R : Nat → Nat) (h : ROk R) (i : Nat) (hi : i < 16) : posS (tS R) i = R i := by
  obtain ⟨T, hT, e⟩ := tS_list R
  obtain ⟨a, b, c, d, e', f, g, k, hl⟩ := txt_list (R 4)
  rw [hT] at hl
  have hb : ∀ j, j < 16 → j ≠ 5 → R j < 256 := fun j hj h5 => h.b j hj h5
  have h5 := h.2.1
  have t4 : ((tS R).drop 22).take 8 = txt (R 4) := by rw [e, hT, hl]; kernel_rfl
  have h15 : (tS R).drop 70 = spd (R 15) := by rw [e, hl]; kernel_rfl
  have p0 : twoP (tS R) 2 = R 0 := twoP_at _ _ _ (hb 0 (by omega) (by omega)) (by rw [e, hl]; kernel_rfl)
  have p1 : twoP (tS R) 7 = R 1 := twoP_at _ _ _ (hb 1 (by omega) (by omega)) (by rw [e, hl]; kernel_rfl)
  have p2 : twoP (tS R) 12 = R 2 := twoP_at _ _ _ (hb 2 (by omega) (by omega)) (by rw [e, hl]; kernel_rfl)
  have p3 : twoP (tS R) 17 = R 3 := twoP_at _ _ _ (hb 3 (by omega) (by omega)) (by rw [e, hl]; kernel_rfl)
  have p5 : twoP (tS R) 34 = R 5 / 256 := twoP_at _ _ _ (by omega) (by rw [e, hl]; kernel_rfl)
  have q5 : twoP (tS R) 36 = R 5 % 256 := by
    exact twoP_at _ _ _ (by omega) (by rw [e, hl, ← hx_mod (R 5)]; kernel_rfl)
  have p14 : twoP (tS R) 67 = R 14 := twoP_at _ _ _ (hb 14 (by omega) (by omega)) (by rw [e, hl]; kernel_rfl)
  have pb : ∀ j, 6 ≤ j → j < 14 → twoP (tS R) (41 + 3 * (j - 6)) = R j := fun j h6 h14 => by
    have hj : j = 6 ∨ j = 7 ∨ j = 8 ∨ j = 9 ∨ j = 10 ∨ j = 11 ∨ j = 12 ∨ j = 13 := by omega
    refine twoP_at _ _ _ (hb j (by omega) (by omega)) ?_
    rw [e, hl]
    rcases hj with rfl | rfl | rfl | rfl | rfl | rfl | rfl | rfl <;> kernel_rfl
  by_cases h6 : 6 ≤ i ∧ i < 14
  · unfold posS
    rw [if_neg (by omega), if_neg (by omega), if_neg (by omega), if_neg (by omega), if_neg (by omega), if_neg (by omega), if_pos (by omega)]
    exact pb i h6.1 h6.2
  · have hc : i = 0 ∨ i = 1 ∨ i = 2 ∨ i = 3 ∨ i = 4 ∨ i = 5 ∨ i = 14 ∨ i = 15 := by omega
    rcases hc with rfl | rfl | rfl | rfl | rfl | rfl | rfl | rfl
    · exact p0
    · exact p1
    · exact p2
    · exact p3
    · show (rd (((tS R).drop 22).take 8)).getD 0 = R 4
      rw [t4, rd_some _ (R 4) (hb 4 (by omega) (by omega)) rfl]
      rfl
    · show twoP (tS R) 34 * 256 + twoP (tS R) 36 = R 5
      rw [p5, q5]; omega
    · exact p14
    · show (if (tS R).drop 70 = [102, 97, 115, 116] then 1 else 0) = R 15
      rw [h15]
      have := h.2.2
      unfold spd
      by_cases h1 : R 15 = 1
      · rw [if_pos h1, if_pos rfl, h1]
      · rw [if_neg h1, if_neg (by decide)]; omega
theorem tS_congr {R R' : Nat → Nat} (h : ∀ i, i < 16 → R i = R' i) : tS R = tS R' := by
  unfold tS prt bkL
  rw [h 0 (by omega), h 1 (by omega), h 2 (by omega), h 3 (by omega), h 4 (by omega), h 5 (by omega), h 6 (by omega), h 7 (by omega), h 8 (by omega), h 9 (by omega), h 10 (by omega), h 11 (by omega), h 12 (by omega), h 13 (by omega), h 14 (by omega), h 15 (by omega)]
theorem rdV_tS (R : Nat → Nat) (h : ROk R) : rdV (tS R) = .tuple #[.agg (stA R), .int .i64 0] := by
  have e : ∀ i, i < 16 → parS (Lib.split (tS R) [32]) i = R i := fun i hi => by rw [split_tS]; exact parS_prt R h i hi
  unfold rdV
  rw [if_pos ⟨by rw [split_tS]; rfl, tS_congr e⟩, stA_congr e]
theorem rpV_tS (R : Nat → Nat) (h : ROk R) : rpV (tS R) = .tuple #[.agg (stA R), .int .i64 0] := by
  have e : ∀ i, i < 16 → posS (tS R) i = R i := fun i hi => posS_tS R h i hi
  unfold rpV
  rw [if_pos ⟨tS_len R, tS_congr e⟩, stA_congr e]
theorem rdV_rpV (l : List UInt8) : rdV l = rpV l := by
  by_cases h : ∃ R, ROk R ∧ tS R = l
  · obtain ⟨R, hR, rfl⟩ := h
    rw [rdV_tS R hR, rpV_tS R hR]
  · unfold rdV rpV
    rw [if_neg fun ht => h ⟨_, parS_ok _, ht.2⟩, if_neg fun ht => h ⟨_, posS_ok _, ht.2⟩]
/-- What a line is read as: a state and how it went. -/
theorem rdV_form (l : List UInt8) : ∃ R : Nat → Nat, ∃ n : Nat, ROk R ∧ n < 4 ∧ rdV l = .tuple #[.agg (stA R), .int .i64 (n : Int)] := by
  unfold rdV
  split
  · exact ⟨_, 0, parS_ok _, by omega, rfl⟩
  · exact ⟨fun _ => 0, 3, ⟨fun _ _ _ _ => Nat.zero_lt_succ _, Nat.zero_lt_succ _, Nat.zero_lt_succ _⟩, by omega, rfl⟩
end Go.Proofs.YtelmkpcocaogjaaDoor
