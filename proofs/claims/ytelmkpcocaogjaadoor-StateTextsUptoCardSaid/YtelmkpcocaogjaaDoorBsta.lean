/-
  Plain facts on registers, their bytes and their text. No program in sight.
-/
import Derived.Test.YtelmkpcocaogjaaDoorBhex
import Derived.Test.YtelmkpcocaogjaaDoorBtxt
import Derived.Lib.SplitLaws
import Derived.Lib.Join
import Derived.Lib.Strings
namespace Go.Proofs.YtelmkpcocaogjaaDoor.Pl

/-- sixteen registers: A X Y S P PC M0..M7 L F -/
def ROk (R : Nat → Nat) : Prop := (∀ i, i < 16 → i ≠ 5 → i ≠ 15 → R i < 256) ∧ R 5 < 65536 ∧ R 15 < 2
theorem ROk.b {R : Nat → Nat} (h : ROk R) (i : Nat) (hi : i < 16) (h5 : i ≠ 5) : R i < 256 := by
  by_cases h15 : i = 15
  · subst h15; have := h.2.2; omega
  · exact h.1 i hi h5 h15
theorem ROk.w {R : Nat → Nat} (h : ROk R) (i : Nat) (hi : i < 16) : R i < 65536 := by
  by_cases h5 : i = 5
  · subst h5; exact h.2.1
  · have := h.b i hi h5; omega
def most (i : Nat) : Nat := if i = 5 then 65535 else if i = 15 then 1 else 255
theorem ROk.most {R : Nat → Nat} (h : ROk R) (i : Nat) (hi : i < 16) : R i ≤ most i := by
  unfold Pl.most
  by_cases h5 : i = 5
  · subst h5; have := h.2.1; rw [if_pos rfl]; omega
  · rw [if_neg h5]
    by_cases h15 : i = 15
    · subst h15; have := h.2.2; rw [if_pos rfl]; omega
    · rw [if_neg h15]; have := h.1 i hi h5 h15; omega
theorem rok_most {R : Nat → Nat} (h : ∀ i, i < 16 → R i ≤ most i) : ROk R := by
  refine ⟨fun i hi h5 h15 => ?_, ?_, ?_⟩
  · have := h i hi
    unfold most at this
    rw [if_neg h5, if_neg h15] at this
    omega
  · have h' : R 5 ≤ 65535 := h 5 (by omega)
    omega
  · have h' : R 15 ≤ 1 := h 15 (by omega)
    omega
/-- seventeen bytes -/
def bts (R : Nat → Nat) (j : Nat) : Nat := if j < 5 then R j else if j = 5 then R 5 % 256 else if j = 6 then R 5 / 256 else R (j - 1)
theorem bts_lt {R : Nat → Nat} (h : ROk R) (j : Nat) (hj : j < 17) : bts R j < 256 := by
  unfold bts
  split
  · exact h.b j (by omega) (by omega)
  · split
    · omega
    · split
      · have := h.2.1; omega
      · exact h.b (j - 1) (by omega) (by omega)
/-- registers of bytes -/
def unb (B : Nat → Nat) (i : Nat) : Nat := if i < 5 then B i else if i = 5 then B 5 + 256 * B 6 else B (i + 1)
theorem unb_bts (R : Nat → Nat) (i : Nat) : unb (bts R) i = R i := by
  unfold unb
  split
  · unfold bts; rw [if_pos (by omega)]
  · split
    · rename_i h h2
      subst h2
      show bts R 5 + 256 * bts R 6 = R 5
      have e5 : bts R 5 = R 5 % 256 := rfl
      have e6 : bts R 6 = R 5 / 256 := rfl
      omega
    · unfold bts
      rw [if_neg (by omega), if_neg (by omega), if_neg (by omega)]
      rfl
theorem unb_ok {B : Nat → Nat} (h : ∀ j, j < 17 → B j < 256) (hF : B 16 < 2) : ROk (unb B) := by
  refine ⟨fun i hi h5 h15 => ?_, ?_, ?_⟩
  · unfold unb
    split
    · exact h i (by omega)
    · first | exact h (i + 1) (by omega) | (rw [if_neg h5]; exact h (i + 1) (by omega))
  · show B 5 + 256 * B 6 < 65536
    have := h 5 (by omega); have := h 6 (by omega); omega
  · exact hF

/-- names -/
def nmL : List (List UInt8) := [[65], [88], [89], [83], [80], [80, 67], [77, 48], [77, 49], [77, 50], [77, 51], [77, 52], [77, 53], [77, 54], [77, 55], [76], [70]]
def nm (i : Nat) : List UInt8 := nmL.getD i []
def nmB (i : Nat) : ByteArray := ⟨(nm i).toArray⟩

/-- cut at a byte -/
theorem index_hit1 (x r : List UInt8) (c : UInt8) (h : c ∉ x) : Lib.index (x ++ c :: r) [c] = (x.length : Int) := by
  induction x with
  | nil => simp [Lib.index, List.isPrefixOf]
  | cons b l ih =>
    have hb : c ≠ b := fun e => h (by simp [e])
    have ih := ih (fun e => h (by simp [e]))
    rw [List.cons_append, Lib.index, ih]
    have hp : ([c] : List UInt8).isPrefixOf (b :: (l ++ c :: r)) = false := by simp [List.isPrefixOf, hb]
    rw [hp]
    have : ((l.length : Int) == -1) = false := by rw [beq_eq_false_iff_ne]; omega
    simp [this]
theorem index_miss1 (x : List UInt8) (c : UInt8) (h : c ∉ x) : Lib.index x [c] = -1 := by
  induction x with
  | nil => simp [Lib.index]
  | cons b l ih =>
    have hb : c ≠ b := fun e => h (by simp [e])
    have ih := ih (fun e => h (by simp [e]))
    rw [Lib.index, ih]
    have hp : ([c] : List UInt8).isPrefixOf (b :: l) = false := by simp [List.isPrefixOf, hb]
    rw [hp]
    rfl
theorem split_hit1 (x r : List UInt8) (c : UInt8) (h : c ∉ x) : Lib.split (x ++ c :: r) [c] = x :: Lib.split r [c] := by
  have hi := index_hit1 x r c h
  unfold Lib.split
  have hd : (x ++ c :: r).drop (x.length + [c].length) = r := by
    rw [show x.length + [c].length = x.length + 1 from rfl, ← List.drop_drop]
    simp
  rw [Lib.count_hit (by simp) hi, hd, Nat.add_comm 1, Lib.splitK, hi, if_neg (by simp)]
  simp only [Int.toNat_natCast, Nat.add_zero]
  rw [hd]
  simp
theorem split_miss1 (x : List UInt8) (c : UInt8) (h : c ∉ x) : Lib.split x [c] = [x] := by
  unfold Lib.split
  rw [Lib.count_miss (index_miss1 x c h)]
  rfl
theorem join_two (x y : List UInt8) (r : List (List UInt8)) (sep : List UInt8) : Lib.join (x :: y :: r) sep = x ++ sep ++ Lib.join (y :: r) sep := by
  rw [Lib.join_cons, Lib.join_cons]
  simp [Lib.joinTail]
theorem split_join (c : UInt8) : ∀ (l : List (List UInt8)) (x : List UInt8), (∀ y ∈ x :: l, c ∉ y) → Lib.split (Lib.join (x :: l) [c]) [c] = x :: l
  | [], x, h => by rw [Lib.join_one]; exact split_miss1 x c (h x (by simp))
  | y :: r, x, h => by
    rw [join_two, List.append_assoc]
    show Lib.split (x ++ c :: Lib.join (y :: r) [c]) [c] = _
    rw [split_hit1 x _ c (h x (by simp)), split_join c r y fun z hz => h z (by simp at hz ⊢; exact Or.inr hz)]
theorem trimPrefix_app (p x : List UInt8) : Lib.trimPrefix (p ++ x) p = x := by
  unfold Lib.trimPrefix Lib.hasPrefix
  rw [if_pos (by simp)]
  simp

/-- the text's parts -/
def hx (n : Nat) : List UInt8 := hexT n 2
def bkL (R : Nat → Nat) : List (List UInt8) := [hx (R 6), hx (R 7), hx (R 8), hx (R 9), hx (R 10), hx (R 11), hx (R 12), hx (R 13)]
def spd (f : Nat) : List UInt8 := if f = 1 then [102, 97, 115, 116] else [115, 108, 111, 119]
def prt (R : Nat → Nat) : List (List UInt8) :=
  [[65, 61] ++ hx (R 0), [88, 61] ++ hx (R 1), [89, 61] ++ hx (R 2), [83, 61] ++ hx (R 3), [80, 61] ++ txt (R 4), [80, 67, 61] ++ hexT (R 5) 4, [77, 61] ++ Lib.join (bkL R) [46], [76, 61] ++ hx (R 14), spd (R 15)]
def tS (R : Nat → Nat) : List UInt8 := Lib.join (prt R) [32]
theorem hexC_in : ∀ d, d < 16 → hexC d ≠ 32 ∧ hexC d ≠ 46 := by decide
theorem hexT_no (n k : Nat) : 32 ∉ hexT n k ∧ 46 ∉ hexT n k := by
  induction k with
  | zero => simp [hexT]
  | succ k ih =>
    have := hexC_in (n / 16 ^ k % 16) (Nat.mod_lt _ (by omega))
    constructor
    · rw [hexT]; intro h; rcases List.mem_cons.1 h with h | h
      · exact this.1 h.symm
      · exact ih.1 h
    · rw [hexT]; intro h; rcases List.mem_cons.1 h with h | h
      · exact this.2 h.symm
      · exact ih.2 h
theorem txt_no (p : Nat) : 32 ∉ txt p := by
  intro h
  obtain ⟨i, hi, e⟩ := List.mem_map.1 h
  have hi : i < 8 := by simpa using hi
  unfold txtC at e
  split at e
  · match i, hi with
    | 0, _ | 1, _ | 2, _ | 3, _ | 4, _ | 5, _ | 6, _ | 7, _ => exact absurd e (by decide)
  · exact absurd e (by decide)
theorem join_no (c s : UInt8) (hs : c ≠ s) : ∀ (l : List (List UInt8)), (∀ x ∈ l, c ∉ x) → c ∉ Lib.join l [s]
  | [], _ => by simp [Lib.join_nil]
  | [x], h => by rw [Lib.join_one]; exact h x (by simp)
  | x :: y :: r, h => by
    rw [join_two]
    intro e
    rcases List.mem_append.1 e with e | e
    · rcases List.mem_append.1 e with e | e
      · exact h x (by simp) e
      · exact hs (by simpa using e)
    · exact join_no c s hs (y :: r) (fun z hz => h z (by simp at hz ⊢; exact Or.inr hz)) e
theorem bkL_no (R : Nat → Nat) : ∀ x ∈ bkL R, 32 ∉ x ∧ 46 ∉ x := fun x h => by
  simp only [bkL, List.mem_cons, List.not_mem_nil, or_false] at h
  rcases h with rfl | rfl | rfl | rfl | rfl | rfl | rfl | rfl <;> exact hexT_no _ 2
theorem spd_no (f : Nat) : 32 ∉ spd f := by unfold spd; split <;> decide
theorem prt_no (R : Nat → Nat) : ∀ x ∈ prt R, 32 ∉ x := fun x h => by
  have two : ∀ (a b : UInt8) (n : Nat), a ≠ 32 → b ≠ 32 → 32 ∉ [a, b] ++ hx n := fun a b n ha hb e => by
    rcases List.mem_append.1 e with e | e
    · simp at e; rcases e with e | e
      · exact ha e.symm
      · exact hb e.symm
    · exact (hexT_no n 2).1 e
  simp only [prt, List.mem_cons, List.not_mem_nil, or_false] at h
  rcases h with rfl | rfl | rfl | rfl | rfl | rfl | rfl | rfl | rfl
  · exact two _ _ _ (by decide) (by decide)
  · exact two _ _ _ (by decide) (by decide)
  · exact two _ _ _ (by decide) (by decide)
  · exact two _ _ _ (by decide) (by decide)
  · intro e
    rcases List.mem_append.1 e with e | e
    · exact absurd e (by decide)
    · exact txt_no _ e
  · intro e
    rcases List.mem_append.1 e with e | e
    · exact absurd e (by decide)
    · exact (hexT_no _ 4).1 e
  · intro e
    rcases List.mem_append.1 e with e | e
    · exact absurd e (by decide)
    · exact join_no 32 46 (by decide) _ (fun x hx => (bkL_no R x hx).1) e
  · exact two _ _ _ (by decide) (by decide)
  · exact spd_no _
theorem split_tS (R : Nat → Nat) : Lib.split (tS R) [32] = prt R := split_join 32 _ _ (prt_no R)
theorem split_bk (R : Nat → Nat) : Lib.split (Lib.join (bkL R) [46]) [46] = bkL R := split_join 46 _ _ fun x h => (bkL_no R x h).2

/-- a line read, out of its nine parts -/
def numP (part name : List UInt8) : Nat := (fh (Lib.trimPrefix part (name ++ [61]))).1 % 65536
def bankP (part : List UInt8) (j : Nat) : Nat := match (Lib.split (Lib.trimPrefix part [77, 61]) [46])[j]? with
  | some d => (fh d).1 % 256
  | none => 0
def flgP (part : List UInt8) : Nat := (rd (Lib.trimPrefix part [80, 61])).getD 0
def parS (l : List (List UInt8)) (i : Nat) : Nat :=
  if i = 0 then numP (l.getD 0 []) [65] % 256 else if i = 1 then numP (l.getD 1 []) [88] % 256 else if i = 2 then numP (l.getD 2 []) [89] % 256 else if i = 3 then numP (l.getD 3 []) [83] % 256 else
  if i = 4 then flgP (l.getD 4 []) else if i = 5 then numP (l.getD 5 []) [80, 67] else if i < 14 then bankP (l.getD 6 []) (i - 6) else if i = 14 then numP (l.getD 7 []) [76] % 256 else
  if l.getD 8 [] = [102, 97, 115, 116] then 1 else 0
theorem rd_lt {s : List UInt8} {p : Nat} (h : rd s = some p) : p < 256 := by
  have := List.mem_of_find?_eq_some h
  simpa using this
theorem flgP_lt (part : List UInt8) : flgP part < 256 := by
  unfold flgP
  cases h : rd (Lib.trimPrefix part [80, 61]) with
  | none => simp
  | some p => simpa using rd_lt h
theorem bankP_lt (part : List UInt8) (j : Nat) : bankP part j < 256 := by
  unfold bankP
  split <;> omega
theorem parS_ok (l : List (List UInt8)) : ROk (parS l) := by
  refine ⟨fun i hi h5 h15 => ?_, ?_, ?_⟩
  · unfold parS
    rw [if_neg h5]
    have h1 := flgP_lt (l.getD 4 [])
    have h2 := bankP_lt (l.getD 6 []) (i - 6)
    repeat' split
    all_goals omega
  · show numP (l.getD 5 []) [80, 67] < 65536
    unfold numP; omega
  · show (if l.getD 8 [] = [102, 97, 115, 116] then 1 else 0) < 2
    split <;> omega
theorem numP_hx (p : List UInt8) (n k : Nat) (hk : 0 < k) (hk4 : k ≤ 4) (hn : n < 16 ^ k) : numP (p ++ [61] ++ hexT n k) p = n := by
  unfold numP
  have h4 : 16 ^ k ≤ 16 ^ 4 := Nat.pow_le_pow_right (by omega) hk4
  rw [trimPrefix_app, fh_hexT n k hk (by omega) hn]
  show n % 65536 = n
  have : (16 : Nat) ^ 4 = 65536 := rfl
  omega
theorem bankP_bk (R : Nat → Nat) (h : ROk R) (j : Nat) (hj : j < 8) : bankP ([77, 61] ++ Lib.join (bkL R) [46]) j = R (6 + j) := by
  unfold bankP
  rw [trimPrefix_app, split_bk]
  have hb := h.b (6 + j) (by omega) (by omega)
  have e : (bkL R)[j]? = some (hx (R (6 + j))) := by
    match j, hj with
    | 0, _ | 1, _ | 2, _ | 3, _ | 4, _ | 5, _ | 6, _ | 7, _ => rfl
  rw [e]
  show (fh (hexT (R (6 + j)) 2)).1 % 256 = R (6 + j)
  rw [fh_hexT _ 2 (by omega) (by omega) (by omega)]
  show R (6 + j) % 256 = R (6 + j)
  omega
theorem flgP_txt (p : Nat) (h : p < 256) : flgP ([80, 61] ++ txt p) = p := by
  unfold flgP
  rw [trimPrefix_app, rd_some _ p h rfl]
  rfl
/-- what was written is read -/
theorem parS_prt (R : Nat → Nat) (h : ROk R) (i : Nat) (hi : i < 16) : parS (prt R) i = R i := by
  have b := fun j hj h5 => h.b j hj h5
  have n2 : ∀ (p : List UInt8) (j : Nat), j < 16 → j ≠ 5 → numP (p ++ [61] ++ hexT (R j) 2) p % 256 = R j := fun p j hj h5 => by
    have := b j hj h5
    rw [numP_hx p (R j) 2 (by omega) (by omega) (by omega)]
    omega
  by_cases h6 : 6 ≤ i ∧ i < 14
  · have e := bankP_bk R h (i - 6) (by omega)
    rw [show 6 + (i - 6) = i from by omega] at e
    unfold parS
    rw [if_neg (by omega), if_neg (by omega), if_neg (by omega), if_neg (by omega), if_neg (by omega), if_neg (by omega), if_pos (by omega)]
    exact e
  · have hc : i = 0 ∨ i = 1 ∨ i = 2 ∨ i = 3 ∨ i = 4 ∨ i = 5 ∨ i = 14 ∨ i = 15 := by omega
    rcases hc with rfl | rfl | rfl | rfl | rfl | rfl | rfl | rfl
    · exact n2 [65] 0 (by omega) (by omega)
    · exact n2 [88] 1 (by omega) (by omega)
    · exact n2 [89] 2 (by omega) (by omega)
    · exact n2 [83] 3 (by omega) (by omega)
    · exact flgP_txt _ (b 4 (by omega) (by omega))
    · exact numP_hx [80, 67] (R 5) 4 (by omega) (by omega) (by have := h.2.1; omega)
    · exact n2 [76] 14 (by omega) (by omega)
    · show (if spd (R 15) = [102, 97, 115, 116] then 1 else 0) = R 15
      have := h.2.2
      unfold spd
      by_cases h1 : R 15 = 1
      · rw [if_pos h1, if_pos rfl, h1]
      · rw [if_neg h1, if_neg (by decide)]; omega
/-- a line read by its places -/
def twoP (s : List UInt8) (at' : Nat) : Nat := (fh ((s.drop at').take 2)).1 % 256
def posS (s : List UInt8) (i : Nat) : Nat :=
  if i = 0 then twoP s 2 else if i = 1 then twoP s 7 else if i = 2 then twoP s 12 else if i = 3 then twoP s 17 else if i = 4 then (rd ((s.drop 22).take 8)).getD 0 else
  if i = 5 then twoP s 34 * 256 + twoP s 36 else if i < 14 then twoP s (41 + 3 * (i - 6)) else if i = 14 then twoP s 67 else if s.drop 70 = [102, 97, 115, 116] then 1 else 0
theorem twoP_lt (s : List UInt8) (a : Nat) : twoP s a < 256 := by unfold twoP; omega
theorem posS_ok (s : List UInt8) : ROk (posS s) := by
  refine ⟨fun i hi h5 h15 => ?_, ?_, ?_⟩
  · unfold posS
    rw [if_neg h5]
    have h1 : (rd ((s.drop 22).take 8)).getD 0 < 256 := by
      cases h : rd ((s.drop 22).take 8) with
      | none => simp
      | some p => simpa using rd_lt h
    repeat' split
    all_goals first | exact twoP_lt _ _ | omega
  · show twoP s 34 * 256 + twoP s 36 < 65536
    have := twoP_lt s 34; have := twoP_lt s 36; omega
  · show (if s.drop 70 = [102, 97, 115, 116] then 1 else 0) < 2
    split <;> omega
end Go.Proofs.YtelmkpcocaogjaaDoor.Pl
