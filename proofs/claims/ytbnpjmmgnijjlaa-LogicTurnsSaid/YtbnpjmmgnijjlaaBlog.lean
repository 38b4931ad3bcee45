/-
  Plain facts on bytes joined, tested and turned with flags.
-/
import Derived.Test.YtbnpjmmgnijjlaaBoct
namespace Go.Proofs.Ytbnpjmmgnijjlaa.Pl

theorem fres_bit0 (p v : Nat) : (fres p v).testBit 0 = p.testBit 0 := by
  unfold fres
  rw [show (2 : Nat) = 2 ^ 1 from rfl, fset_bit _ 1 _ (by omega) 0 (by omega), show (128 : Nat) = 2 ^ 7 from rfl, fset_bit _ 7 _ (by omega) 0 (by omega)]
  rfl
theorem fset1_bit0 (p : Nat) (on : Bool) : (fset p 1 on).testBit 0 = on := by
  rw [show fset p 1 on = fset p (2 ^ 0) on from rfl, fset_bit _ 0 _ (by omega) 0 (by omega)]
  rfl
theorem fis1 (p : Nat) : fis p 1 = p.testBit 0 := by
  rw [show fis p 1 = fis p (2 ^ 0) from rfl, fis_tb p 0 (by omega), tb_nat p 0 (by omega)]
theorem fset1_wth (p : Nat) (on : Bool) : fset p 1 on = wth p 0 on := fset_wth p 0 on (by omega)
/-- The carry kept as it is. -/
theorem wth0_self (p : Nat) (hp : p < 256) : wth p 0 (tb p 0) = p :=
  bext (wth_lt hp) hp fun k hk => by
    rw [show (0 : Int) = ((0 : Nat) : Int) from rfl, wth_bit (by omega) k hk, tb_nat p 0 (by omega)]
    split
    · subst k; rfl
    · rfl

/-- The flags of a byte in memory. -/
def tst (a m p : Nat) : Nat := wth (wth (wth p 7 (tb m 7)) 6 (tb m 6)) 1 (a &&& m == 0)
theorem tst_lt (a m : Nat) {p : Nat} (hp : p < 256) : tst a m p < 256 := wth_lt (wth_lt (wth_lt hp))
theorem tst_bit (a m p k : Nat) (hk : k < 8) : (tst a m p).testBit k = if k = 1 then (a &&& m == 0) else if k = 6 then m.testBit 6 else if k = 7 then m.testBit 7 else p.testBit k := by
  unfold tst
  rw [show (1 : Int) = ((1 : Nat) : Int) from rfl, wth_bit (by omega) k hk, show (6 : Int) = ((6 : Nat) : Int) from rfl, wth_bit (by omega) k hk, show (7 : Int) = ((7 : Nat) : Int) from rfl, wth_bit (by omega) k hk,
    tb_nat m 6 (by omega), tb_nat m 7 (by omega)]
theorem tst_of (a m p : Nat) (hp : p < 256) : ofB (fun i => upd (upd (upd (flagsOf p) 0 (fis m 128)) 1 (fis m 64)) 6 (a &&& m == 0) (7 - i)) = tst a m p := by
  refine ofB_eq (tst_lt a m hp) fun k hk => ?_
  rw [tst_bit a m p k hk]
  unfold upd
  by_cases h1 : k = 1
  · subst h1; rfl
  · rw [if_neg (by omega), if_neg h1]
    by_cases h6 : k = 6
    · subst h6
      rw [if_pos (by omega), if_pos rfl, show (64 : Nat) = 2 ^ 6 from rfl, fis_tb m 6 (by omega), tb_nat m 6 (by omega)]
    · rw [if_neg (by omega), if_neg h6]
      by_cases h7 : k = 7
      · subst h7
        rw [if_pos (by omega), if_pos rfl, show (128 : Nat) = 2 ^ 7 from rfl, fis_tb m 7 (by omega), tb_nat m 7 (by omega)]
      · rw [if_neg (by omega), if_neg h7, flagsOf_tb p k hk, tb_nat p k (by omega)]

/-- No bit in common, below k. -/
def noneK (a m : Nat) : Nat → Bool
  | 0 => true
  | k + 1 => noneK a m k && !(a.testBit k && m.testBit k)
theorem noneK_iff (a m k : Nat) : noneK a m k = true ↔ ∀ i, i < k → (a &&& m).testBit i = false := by
  induction k with
  | zero => simp [noneK]
  | succ k ih =>
    rw [noneK, Bool.and_eq_true, ih]
    constructor
    · rintro ⟨h1, h2⟩ i hi
      by_cases e : i = k
      · subst e; rw [Nat.testBit_and]; revert h2; cases a.testBit i <;> cases m.testBit i <;> simp
      · exact h1 i (by omega)
    · intro h
      refine ⟨fun i hi => h i (by omega), ?_⟩
      have := h k (by omega)
      rw [Nat.testBit_and] at this
      rw [this]
      rfl
theorem noneK_all (a m : Nat) (hm : m < 256) : noneK a m 8 = (a &&& m == 0) := by
  rw [Bool.eq_iff_iff, noneK_iff, beq_iff_eq]
  constructor
  · intro h
    exact bext (and_lt hm) (by omega) fun k hk => by rw [h k hk]; simp
  · intro h i _
    rw [h]; simp

/-- m's bits, where a has one: on, or off; below k. -/
def layK (a m : Nat) (on : Bool) : Nat → Nat
  | 0 => m
  | k + 1 => if a.testBit k then wth (layK a m on k) (k : Int) on else layK a m on k
theorem layK_lt (a : Nat) {m : Nat} (on : Bool) (hm : m < 256) (k : Nat) : layK a m on k < 256 := by
  induction k with
  | zero => exact hm
  | succ k ih => unfold layK; split; exact wth_lt ih; exact ih
theorem layK_bit (a m : Nat) (on : Bool) (k : Nat) (hk8 : k ≤ 8) (i : Nat) (hi : i < 8) : (layK a m on k).testBit i = if i < k ∧ a.testBit i = true then on else m.testBit i := by
  induction k with
  | zero => simp [layK]
  | succ k ih =>
    have ih := ih (by omega)
    unfold layK
    by_cases hb : a.testBit k = true
    · rw [if_pos hb, wth_bit (by omega) i hi, ih]
      by_cases e : i = k
      · subst e; rw [if_pos rfl, if_pos ⟨by omega, hb⟩]
      · rw [if_neg e]
        by_cases h2 : i < k ∧ a.testBit i = true
        · rw [if_pos h2, if_pos ⟨by omega, h2.2⟩]
        · rw [if_neg h2, if_neg (by rintro ⟨h3, h4⟩; exact h2 ⟨by omega, h4⟩)]
    · rw [if_neg hb, ih]
      by_cases h2 : i < k ∧ a.testBit i = true
      · rw [if_pos h2, if_pos ⟨by omega, h2.2⟩]
      · rw [if_neg h2, if_neg (by rintro ⟨h3, h4⟩; exact h2 ⟨by by_cases e : i = k; (subst e; exact absurd h4 hb); omega, h4⟩)]
theorem lay_on (a m : Nat) (ha : a < 256) (hm : m < 256) : layK a m true 8 = m ||| a :=
  bext (layK_lt a true hm 8) (or_lt hm ha) fun k hk => by
    rw [layK_bit a m true 8 (by omega) k hk, Nat.testBit_or]
    by_cases h : a.testBit k = true
    · rw [if_pos ⟨hk, h⟩, h, Bool.or_true]
    · rw [if_neg (fun h2 => h h2.2)]; simp at h; rw [h, Bool.or_false]
theorem lay_off (a m : Nat) (ha : a < 256) (hm : m < 256) : layK a m false 8 = m &&& (255 - a) :=
  bext (layK_lt a false hm 8) (and_lt' hm) fun k hk => by
    rw [layK_bit a m false 8 (by omega) k hk, Nat.testBit_and, testBit_compl ha hk]
    by_cases h : a.testBit k = true
    · rw [if_pos ⟨hk, h⟩, h]; simp
    · rw [if_neg (fun h2 => h h2.2)]; simp at h; rw [h]; simp
theorem lay_and (a b : Nat) (ha : a < 256) (hb : b < 256) : layK (255 - a) b false 8 = a &&& b := by
  rw [lay_off _ b (by omega) hb, show 255 - (255 - a) = a from by omega, Nat.and_comm]
theorem xor_of (a b : Nat) (ha : a < 256) (hb : b < 256) : ofB (fun i => a.testBit i != b.testBit i) = a ^^^ b :=
  ofB_eq (xor_lt ha hb) fun k _ => by rw [Nat.testBit_xor]

/-- What was set is gone. -/
theorem undo_and (a v : Nat) (ha : a < 256) (hv : v < 256) : ((v ||| a) &&& (255 - a)) &&& a = 0 :=
  bext (and_lt ha) (by omega) fun k hk => by
    rw [Nat.testBit_and, Nat.testBit_and, testBit_compl ha hk]
    cases a.testBit k <;> simp
theorem undo_or (a v : Nat) (ha : a < 256) (hv : v < 256) : ((v ||| a) &&& (255 - a)) ||| a = v ||| a :=
  bext (or_lt (and_lt (by omega)) ha) (or_lt hv ha) fun k hk => by
    rw [Nat.testBit_or, Nat.testBit_and, Nat.testBit_or, testBit_compl ha hk]
    cases a.testBit k <;> simp
end Go.Proofs.Ytbnpjmmgnijjlaa.Pl
