/-
  Plain facts: an address in letters.
-/
import Derived.Test.YtmlkmaeihkgdlaaBphys
import Derived.Test.YtmlkmaeihkgdlaaBhex
namespace Go.Proofs.Ytmlkmaeihkgdlaa.Pl

theorem hfold_val (s : List UInt8) (acc n : Nat) (h : hfold s acc = some n) : ∃ m, m < 16 ^ s.length ∧ n = acc * 16 ^ s.length + m := by
  induction s generalizing acc with
  | nil => exact ⟨0, by simp, by simp [hfold] at h; simp [h]⟩
  | cons c r ih =>
    rw [hfold] at h
    cases hc : hv c with
    | none => rw [hc] at h; cases h
    | some d =>
      rw [hc] at h
      obtain ⟨m, hm, rfl⟩ := ih _ h
      have hd := hv_lt hc
      have hp : 0 < 16 ^ r.length := Nat.pow_pos (by omega)
      refine ⟨d * 16 ^ r.length + m, ?_, ?_⟩
      · rw [List.length_cons, Nat.pow_succ]
        have : d * 16 ^ r.length ≤ 15 * 16 ^ r.length := Nat.mul_le_mul_right _ (by omega)
        omega
      · rw [List.length_cons, Nat.pow_succ, Nat.add_mul, Nat.add_assoc, Nat.mul_assoc, Nat.mul_comm 16]
theorem hexT_of (s : List UInt8) (acc n : Nat) (h : hfold s acc = some n) : hexT n s.length = s := by
  induction s generalizing acc with
  | nil => rfl
  | cons c r ih =>
    have h0 := h
    rw [hfold] at h
    cases hc : hv c with
    | none => rw [hc] at h; cases h
    | some d =>
      rw [hc] at h
      obtain ⟨m, hm, e⟩ := hfold_val r _ n h
      have hd := hv_lt hc
      have hp : 0 < 16 ^ r.length := Nat.pow_pos (by omega)
      have e1 : n / 16 ^ r.length % 16 = d := by
        rw [e, Nat.mul_comm, Nat.mul_add_div hp, Nat.div_eq_of_lt hm]
        omega
      rw [List.length_cons, hexT, e1, hexC_hv hc, ih _ h]
theorem fh_some {s : List UInt8} {n : Nat} (h : fh s = (n, 0)) : hfold s 0 = some n ∧ n < 16 ^ s.length := by
  unfold fh at h
  split at h
  · cases h
  · split at h
    · cases h
    · cases hf : hfold s 0 with
      | none => rw [hf] at h; cases h
      | some m =>
        rw [hf] at h
        simp at h
        subst h
        have := hfold_lt s 0 m hf
        exact ⟨rfl, by simpa using this⟩
/-- An address in letters. -/
def tx (a : Nat) : List UInt8 := hexT (bnk a) 2 ++ 58 :: hexT (a % 8192) 4
theorem tx_len (a : Nat) : (tx a).length = 7 := by unfold tx; simp [hexT_len]
def ofP (s : List UInt8) : Nat × Nat :=
  if s.length = 7 ∧ s[2]? = some 58 then
    if (fh (s.take 2)).2 = 0 ∧ (fh (s.drop 3)).2 = 0 ∧ (fh (s.drop 3)).1 < 8192 then ((fh (s.take 2)).1 * 8192 + (fh (s.drop 3)).1, 0) else (0, 3)
  else (0, 3)
theorem tx_take (a : Nat) : (tx a).take 2 = hexT (bnk a) 2 := by unfold tx; simp [hexT]
theorem tx_drop (a : Nat) : (tx a).drop 3 = hexT (a % 8192) 4 := by unfold tx; simp [hexT]
theorem tx_two (a : Nat) : (tx a)[2]? = some 58 := by unfold tx; simp [hexT]
theorem of_tx (a : Nat) : ofP (tx a) = (a % 2097152, 0) := by
  unfold ofP
  have h1 : fh (hexT (bnk a) 2) = (bnk a, 0) := fh_hexT _ 2 (by omega) (by omega) (bnk_lt a)
  have h2 : fh (hexT (a % 8192) 4) = (a % 8192, 0) := fh_hexT _ 4 (by omega) (by omega) (by show a % 8192 < 65536; omega)
  rw [tx_len, tx_two, tx_take, tx_drop, h1, h2, if_pos ⟨rfl, rfl⟩, if_pos ⟨rfl, rfl, Nat.mod_lt _ (by omega)⟩]
  congr 1
  unfold bnk
  omega
theorem tx_of (s : List UInt8) (c : Nat) (h : ofP s = (c, 0)) : tx c = s := by
  unfold ofP at h
  split at h
  · rename_i h7
    split at h
    · rename_i ho
      obtain ⟨hl, h2⟩ := h7
      obtain ⟨e1, e2, e3⟩ := ho
      obtain ⟨f1, g1⟩ := fh_some (s := s.take 2) (n := (fh (s.take 2)).1) (by rw [← e1])
      obtain ⟨f2, g2⟩ := fh_some (s := s.drop 3) (n := (fh (s.drop 3)).1) (by rw [← e2])
      have k1 := hexT_of _ _ _ f1
      have k2 := hexT_of _ _ _ f2
      have hl1 : (s.take 2).length = 2 := by simp [hl]
      have hl2 : (s.drop 3).length = 4 := by simp [hl]
      rw [hl1] at k1 g1
      rw [hl2] at k2
      simp at h
      generalize (fh (s.take 2)).1 = b at *
      generalize (fh (s.drop 3)).1 = o at *
      have hb : bnk c = b := by unfold bnk; omega
      have hoo : c % 8192 = o := by omega
      unfold tx
      rw [hb, hoo, k1, k2]
      match s, hl, h2 with
      | [x0, x1, x2, x3, x4, x5, x6], _, h2 =>
        simp at h2
        subst h2
        rfl
    · cases h
  · cases h
theorem of_snd (s : List UInt8) : (ofP s).2 = 0 ∨ (ofP s).2 = 3 := by
  unfold ofP
  repeat (first | exact Or.inl rfl | exact Or.inr rfl | split)
theorem of_lt (s : List UInt8) : (ofP s).1 < 2097152 := by
  unfold ofP
  split
  · split
    · rename_i ho
      obtain ⟨e1, e2, e3⟩ := ho
      obtain ⟨f1, g1⟩ := fh_some (s := s.take 2) (n := (fh (s.take 2)).1) (by rw [← e1])
      have hl1 : (s.take 2).length ≤ 2 := by simp; omega
      have : 16 ^ (s.take 2).length ≤ 16 ^ 2 := Nat.pow_le_pow_right (by omega) hl1
      simp only
      omega
    · simp
  · simp
end Go.Proofs.Ytmlkmaeihkgdlaa.Pl
