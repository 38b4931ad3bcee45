/-
  Package micro: programs as lists of ops; their texts.
-/
import Derived.Test.YtodimiffmmkndaaDoorMr2
namespace Go.Proofs.YtodimiffmmkndaaDoor
set_option linter.unusedSimpArgs false
set_option linter.unusedVariables false
set_option maxRecDepth 10000
open Go.RowKit Go.Shelf Pl
theorem index_hit1 (x r : List UInt8) (c : UInt8) (h : c ∉ x) : Lib.index (x ++ c :: r) [c] = (x.length : Int) := by
  induction x with
  | nil => simp [Lib.index, List.isPrefixOf]
  | cons b l ih =>
    have hb : c ≠ b := fun e => h (by simp [e])
    have ih := ih (fun e => h (by simp [e]))
    rw [List.cons_append, Lib.index, ih]
    have hp : ([c] : List UInt8).isPrefixOf (b :: (l ++ c :: r)) = false := by simp [List.isPrefixOf, hb]
    rw [hp]
    have : ((l.length : Int) == -1) = false := by rw [beq_eq_false_iff_ne]; omega
    simp [this]
theorem index_miss1 (x : List UInt8) (c : UInt8) (h : c ∉ x) : Lib.index x [c] = -1 := by
  induction x with
  | nil => simp [Lib.index]
  | cons b l ih =>
    have hb : c ≠ b := fun e => h (by simp [e])
    have ih := ih (fun e => h (by simp [e]))
    rw [Lib.index, ih]
    have hp : ([c] : List UInt8).isPrefixOf (b :: l) = false := by simp [List.isPrefixOf, hb]
    rw [hp]
    rfl
abbrev OpM := UInt8 × UInt8 × UInt8 × Bool
def tx (x : OpM) : List UInt8 := txO x.1 x.2.1 x.2.2.1 x.2.2.2
def va (x : OpM) : Array Value := vaO x.1 x.2.1 x.2.2.1 x.2.2.2
def okS (x : OpM) : Bool := okO x.1 x.2.1 x.2.2.1 && !(tx x).contains 32
def TX (L : List OpM) : List UInt8 := Lib.join (L.map tx) [32]
def flO (L : List OpM) : List Value := L.flatMap fun x => (va x).toList
theorem flO_snoc (L : List OpM) (x : OpM) : flO (L ++ [x]) = flO L ++ (va x).toList := by simp [flO]
theorem tx_len (x : OpM) : (tx x).length = 4 := rfl
theorem TX_nil : TX [] = [] := rfl
theorem TX_one (x : OpM) : TX [x] = tx x := by simp [TX, Lib.join, List.intercalate]
theorem TX_two (x y : OpM) (r : List OpM) : TX (x :: y :: r) = tx x ++ 32 :: TX (y :: r) := by
  unfold TX
  rw [List.map_cons, List.map_cons, Lib.join_cons]
  simp [Lib.joinTail, Lib.join_cons]
theorem TX_len : ∀ L : List OpM, (TX L).length = 5 * L.length - 1
  | [] => rfl
  | [x] => by rw [TX_one, tx_len]; rfl
  | x :: y :: r => by
    rw [TX_two, List.length_append, tx_len, List.length_cons, TX_len (y :: r)]
    simp only [List.length_cons]
    omega
theorem TX_drop : ∀ (L : List OpM) (i : Nat), (TX L).drop (5 * i) = TX (L.drop i)
  | [], i => by simp [TX_nil]
  | L, 0 => by simp
  | [x], i + 1 => by
    rw [TX_one, List.drop_of_length_le (by rw [tx_len]; omega)]
    simp [TX_nil]
  | x :: y :: r, i + 1 => by
    rw [TX_two, List.drop_succ_cons, ← TX_drop (y :: r) i, show 5 * (i + 1) = (tx x).length + (5 * i + 1) by rw [tx_len]; omega, ← List.drop_drop]
    simp
theorem okS_nb {x : OpM} (h : okS x = true) : (32 : UInt8) ∉ tx x := by
  unfold okS at h
  have := (Bool.and_eq_true_iff.1 h).2
  simpa using this
theorem cutTX (x : OpM) (r : List OpM) (h : okS x = true) : Lib.cut (TX (x :: r)) [32] = (tx x, TX r, !r.isEmpty) := by
  have hb := okS_nb h
  cases r with
  | nil =>
    rw [TX_one]
    unfold Lib.cut
    rw [index_miss1 _ _ hb]
    rfl
  | cons y r =>
    rw [TX_two]
    unfold Lib.cut
    rw [index_hit1 _ _ _ hb]
    rw [if_pos (by omega)]
    rw [Int.toNat_natCast, tx_len]
    have e1 : (tx x ++ 32 :: TX (y :: r)).take 4 = tx x := by rw [List.take_append_of_le_length (by rw [tx_len]; omega), List.take_of_length_le (by rw [tx_len]; omega)]
    have e2 : (tx x ++ 32 :: TX (y :: r)).drop (4 + [(32 : UInt8)].length) = TX (y :: r) := by
      rw [show 4 + [(32 : UInt8)].length = (tx x).length + 1 from rfl, ← List.drop_drop]
      simp
    rw [e1, e2]
    rfl
end Go.Proofs.YtodimiffmmkndaaDoor
