/-
  The texts Sp1 of the proof of TopSums, as one file (they are merged by a program).
-/
import Derived.Test.YtplobngbjpgcgaaGreatDoorA19
section
/-
  Plain: six instructions of a processor, and a program of them that adds.
-/
namespace Go.Proofs.YtplobngbjpgcgaaGreatDoor.Pl
set_option linter.unusedSimpArgs false
set_option linter.unusedVariables false
set_option maxRecDepth 10000

/-- What six instructions see: A, the flags, PC, and memory. -/
structure St where
  a : Nat
  p : Nat
  pc : Nat
  M : Nat → Nat
def upM (M : Nat → Nat) (k v : Nat) : Nat → Nat := fun j => if j = k then v else M j
/-- One of six instructions. -/
def nxt (s : St) : St :=
  if s.M s.pc = 24 then ⟨s.a, fset s.p 1 false, s.pc + 1, s.M⟩
  else if s.M s.pc = 216 then ⟨s.a, fset s.p 8 false, s.pc + 1, s.M⟩
  else if s.M s.pc = 248 then ⟨s.a, fset s.p 8 true, s.pc + 1, s.M⟩
  else if s.M s.pc = 165 then ⟨s.M (s.M (s.pc + 1)), fres s.p (s.M (s.M (s.pc + 1))), s.pc + 2, s.M⟩
  else if s.M s.pc = 101 then ⟨addR s.a (s.M (s.M (s.pc + 1))) s.p, addP s.a (s.M (s.M (s.pc + 1))) s.p, s.pc + 2, s.M⟩
  else ⟨s.a, s.p, s.pc + 2, upM s.M (s.M (s.pc + 1)) s.a⟩
/-- A state from which one of them goes on. -/
structure Okk (s : St) : Prop where
  pc : s.pc + 2 ≤ 7000
  a : s.a < 256
  p : s.p < 256
  t : s.p.testBit 5 = false
  M : ∀ i, s.M i < 256
  o : s.M s.pc = 24 ∨ s.M s.pc = 216 ∨ s.M s.pc = 248 ∨ s.M s.pc = 165 ∨ s.M s.pc = 101 ∨ s.M s.pc = 133
theorem t_fis {p : Nat} (h : p.testBit 5 = false) : fis p 32 = false := by
  rw [show (32 : Nat) = 2 ^ 5 from rfl, fis_tb p 5 (by omega), tb_nat p 5 (by omega), h]
theorem t_fset {p : Nat} (hp : p < 256) (h : p.testBit 5 = false) : fset p 32 false = p :=
  bext (fset_lt hp (by omega)) hp fun i hi => by
    rw [show (32 : Nat) = 2 ^ 5 from rfl, fset_bit p 5 _ (by omega) i hi]
    by_cases e : i = 5
    · subst e; rw [if_pos rfl, h]
    · rw [if_neg e]
/-- Flags that are the same but for those of a result. -/
def Alike (p q : Nat) : Prop := ∀ i, i < 8 → i ≠ 1 → i ≠ 7 → p.testBit i = q.testBit i
theorem Alike.car {p q : Nat} (h : Alike p q) : car p = car q := by
  unfold Pl.car
  rw [show (0 : Int) = ((0 : Nat) : Int) from rfl, tb_nat p 0 (by omega), tb_nat q 0 (by omega), h 0 (by omega) (by omega) (by omega)]
theorem Alike.d {p q : Nat} (h : Alike p q) : tb p 3 = tb q 3 := by
  rw [show (3 : Int) = ((3 : Nat) : Int) from rfl, tb_nat p 3 (by omega), tb_nat q 3 (by omega), h 3 (by omega) (by omega) (by omega)]
theorem Alike.fset {p q : Nat} (h : Alike p q) (k : Nat) (hk : k < 8) (on : Bool) : Alike (fset p (2 ^ k) on) (fset q (2 ^ k) on) := fun i hi h1 h7 => by
  rw [fset_bit p k on hk i hi, fset_bit q k on hk i hi, h i hi h1 h7]
theorem fres_alike {p q : Nat} (hp : p < 256) (hq : q < 256) (h : Alike p q) (r : Nat) : fres p r = fres q r :=
  bext (fres_lt hp) (fres_lt hq) fun i hi => by
    unfold fres
    rw [show (2 : Nat) = 2 ^ 1 from rfl, fset_bit _ 1 _ (by omega) i hi, fset_bit _ 1 _ (by omega) i hi, show (128 : Nat) = 2 ^ 7 from rfl, fset_bit _ 7 _ (by omega) i hi, fset_bit _ 7 _ (by omega) i hi]
    by_cases h1 : i = 1
    · rw [if_pos h1, if_pos h1]
    · by_cases h7 : i = 7
      · rw [if_neg h1, if_neg h1, if_pos h7, if_pos h7]
      · rw [if_neg h1, if_neg h1, if_neg h7, if_neg h7, h i hi h1 h7]
theorem ofF_alike {p q : Nat} (hp : p < 256) (hq : q < 256) (h : Alike p q) (r : Nat) (out : Bool) : ofF p r out = ofF q r out := by
  unfold ofF
  exact fres_alike (fset_lt hp (by omega)) (fset_lt hq (by omega)) (h.fset 0 (by omega) out) r
theorem addR_alike {p q : Nat} (h : Alike p q) (a b : Nat) : addR a b p = addR a b q := by
  unfold addR daddR baddR
  rw [h.car, h.d]
theorem addP_alike {p q : Nat} (hp : p < 256) (hq : q < 256) (h : Alike p q) (a b : Nat) : addP a b p = addP a b q := by
  have h6 := h.fset 6 (by omega) (ovf a b (car q))
  unfold addP daddP baddP daddR baddR
  rw [h.car, h.d, ofF_alike hp hq h, ofF_alike (p := fset p 64 _) (q := fset q 64 _) (fset_lt hp (by omega)) (fset_lt hq (by omega)) h6]
theorem fres_self (p v : Nat) : Alike (fres p v) p := fun i hi h1 h7 => fres_bit p v i hi h1 h7
theorem fres_5 (p v : Nat) : (fres p v).testBit 5 = p.testBit 5 := fres_bit p v 5 (by omega) (by omega) (by omega)
theorem ofF_5 (p r : Nat) (out : Bool) : (ofF p r out).testBit 5 = p.testBit 5 := by
  unfold ofF
  rw [fres_5, show fset p 1 out = fset p (2 ^ 0) out from rfl, fset_bit _ 0 _ (by omega) 5 (by omega), if_neg (by omega)]
theorem addP_5 (a b p : Nat) : (addP a b p).testBit 5 = p.testBit 5 := by
  unfold addP
  split
  · exact ofF_5 _ _ _
  · unfold baddP
    rw [ofF_5, show fset p 64 (ovf a b (car p)) = fset p (2 ^ 6) (ovf a b (car p)) from rfl, fset_bit _ 6 _ (by omega) 5 (by omega), if_neg (by omega)]
/-- The program: it clears the carry, chooses decimal or binary, and adds byte by byte. -/
def cdB (dec : Bool) (i : Nat) : Nat :=
  if i = 0 then 24 else if i = 1 then (if dec then 248 else 216)
  else if (i - 2) % 6 = 0 then 165 else if (i - 2) % 6 = 1 then 16 + (i - 2) / 6
  else if (i - 2) % 6 = 2 then 101 else if (i - 2) % 6 = 3 then 32 + (i - 2) / 6
  else if (i - 2) % 6 = 4 then 133 else 48 + (i - 2) / 6
def p0B (dec : Bool) : Nat := if dec then 8 else 0
/-- Memory in which it lies, and both numbers. -/
structure Laid (M : Nat → Nat) (A B : Nat → Nat) (dec : Bool) (k : Nat) : Prop where
  a : ∀ i, i < 12 → M (16 + i) = A i
  b : ∀ i, i < 12 → M (32 + i) = B i
  c : ∀ i, i < 2 + 6 * k → M (1000 + i) = cdB dec i
  M : ∀ i, M i < 256
def memJ (M : Nat → Nat) (R : Nat → Nat) (j : Nat) : Nat → Nat := fun x => if 48 ≤ x ∧ x < 48 + j then R (x - 48) else M x
def run (s : St) : Nat → St
  | 0 => s
  | n + 1 => nxt (run s n)
theorem Laid.code {M A B : Nat → Nat} {dec : Bool} {k : Nat} (h : Laid M A B dec k) (hk : k ≤ 12) (R : Nat → Nat) (j i : Nat) (hj : j ≤ k) (hi : i < 2 + 6 * k) : memJ M R j (1000 + i) = cdB dec i := by
  unfold memJ
  rw [if_neg (by omega), h.c i hi]
theorem Laid.at {M A B : Nat → Nat} {dec : Bool} {k : Nat} (h : Laid M A B dec k) (hk : k ≤ 12) (R : Nat → Nat) (j r : Nat) (hj : j < k) (hr : r < 6) : memJ M R j (1000 + (2 + 6 * j + r)) = if r = 0 then 165 else if r = 1 then 16 + j else if r = 2 then 101 else if r = 3 then 32 + j else if r = 4 then 133 else 48 + j := by
  rw [h.code hk R j _ (by omega) (by omega)]
  unfold cdB
  rw [if_neg (by omega), if_neg (by omega), show (2 + 6 * j + r - 2) % 6 = r by omega, show (2 + 6 * j + r - 2) / 6 = j by omega]
theorem Laid.inA {M A B : Nat → Nat} {dec : Bool} {k : Nat} (h : Laid M A B dec k) (hk : k ≤ 12) (R : Nat → Nat) (j : Nat) (hj : j < k) : memJ M R j (16 + j) = A j := by
  unfold memJ
  rw [if_neg (by omega), h.a j (by omega)]
theorem Laid.inB {M A B : Nat → Nat} {dec : Bool} {k : Nat} (h : Laid M A B dec k) (hk : k ≤ 12) (R : Nat → Nat) (j : Nat) (hj : j < k) : memJ M R j (32 + j) = B j := by
  unfold memJ
  rw [if_neg (by omega), h.b j (by omega)]
theorem memJ_succ (M R : Nat → Nat) (j : Nat) : upM (memJ M R j) (48 + j) (R j) = memJ M R (j + 1) := by
  funext x
  unfold upM memJ
  by_cases e : x = 48 + j
  · rw [if_pos e, if_pos (by omega), show x - 48 = j by omega]
  · rw [if_neg e]
    by_cases e2 : 48 ≤ x ∧ x < 48 + j
    · rw [if_pos e2, if_pos (by omega)]
    · rw [if_neg e2, if_neg (by omega)]
theorem memJ_lt {M R : Nat → Nat} (hM : ∀ i, M i < 256) (hR : ∀ i, R i < 256) (j i : Nat) : memJ M R j i < 256 := by
  unfold memJ
  split
  · exact hR _
  · exact hM _
theorem lgP_5 (A B : Nat → Nat) (dec : Bool) : ∀ j, (lgP false A B (p0B dec) j).testBit 5 = false
  | 0 => by
    show (p0B dec).testBit 5 = false
    cases dec <;> decide
  | j + 1 => by
    show (opP false (A j) (B j) (lgP false A B (p0B dec) j)).testBit 5 = false
    unfold opP
    rw [if_neg (by decide), addP_5]
    exact lgP_5 A B dec j
/-- Behind the beginning, and j bytes: A is something. -/
theorem run_bytes {M A B : Nat → Nat} {dec : Bool} {k : Nat} (h : Laid M A B dec k) (hk : k ≤ 12) :
    ∀ j, j ≤ k → ∃ a, a < 256 ∧ run ⟨0, 0, 1000, M⟩ (2 + 3 * j) = ⟨a, lgP false A B (p0B dec) j, 1002 + 6 * j, memJ M (lgR false A B (p0B dec)) j⟩ ∧
      (j < k → Okk (run ⟨0, 0, 1000, M⟩ (2 + 3 * j)) ∧ Okk (run ⟨0, 0, 1000, M⟩ (2 + 3 * j + 1)) ∧ Okk (run ⟨0, 0, 1000, M⟩ (2 + 3 * j + 2)) ∧
        ∃ a', a' < 256 ∧ run ⟨0, 0, 1000, M⟩ (2 + 3 * j + 3) = ⟨a', lgP false A B (p0B dec) (j + 1), 1002 + 6 * (j + 1), memJ M (lgR false A B (p0B dec)) (j + 1)⟩) := by
  have hp0 : p0B dec < 256 := by cases dec <;> decide
  have key : ∀ j a, j ≤ k → a < 256 → run ⟨0, 0, 1000, M⟩ (2 + 3 * j) = ⟨a, lgP false A B (p0B dec) j, 1002 + 6 * j, memJ M (lgR false A B (p0B dec)) j⟩ →
      (j < k → Okk (run ⟨0, 0, 1000, M⟩ (2 + 3 * j)) ∧ Okk (run ⟨0, 0, 1000, M⟩ (2 + 3 * j + 1)) ∧ Okk (run ⟨0, 0, 1000, M⟩ (2 + 3 * j + 2)) ∧
        ∃ a', a' < 256 ∧ run ⟨0, 0, 1000, M⟩ (2 + 3 * j + 3) = ⟨a', lgP false A B (p0B dec) (j + 1), 1002 + 6 * (j + 1), memJ M (lgR false A B (p0B dec)) (j + 1)⟩) := by
    intro j a hj ha hrun hjk
    have hRlt : ∀ i, lgR false A B (p0B dec) i < 256 := fun i => opR_lt _ _ _ _
    have hPlt := lgP_lt false A B hp0 j
    have hP5 := lgP_5 A B dec j
    have at_ := fun r hr => h.at hk (lgR false A B (p0B dec)) j r hjk hr
    have hA := h.inA hk (lgR false A B (p0B dec)) j hjk
    have hB := h.inB hk (lgR false A B (p0B dec)) j hjk
    have hML : ∀ i, memJ M (lgR false A B (p0B dec)) j i < 256 := memJ_lt h.M hRlt j
    have hs := memJ_succ M (lgR false A B (p0B dec)) j
    have hAlt : A j < 256 := by rw [← hA]; exact hML _
    have hR : lgR false A B (p0B dec) j = addR (A j) (B j) (lgP false A B (p0B dec) j) := rfl
    have hPs : lgP false A B (p0B dec) (j + 1) = addP (A j) (B j) (lgP false A B (p0B dec) j) := rfl
    generalize lgP false A B (p0B dec) j = p at *
    have hal := fres_self p (A j)
    have e1 := addR_alike hal (A j) (B j)
    have e2 := addP_alike (fres_lt hPlt) hPlt hal (A j) (B j)
    generalize memJ M (lgR false A B (p0B dec)) j = G at *
    have c0 : G (1002 + 6 * j) = 165 := by have := at_ 0 (by omega); rw [if_pos rfl, show 1000 + (2 + 6 * j + 0) = 1002 + 6 * j by omega] at this; exact this
    have c1 : G (1002 + 6 * j + 1) = 16 + j := by have := at_ 1 (by omega); rw [show 1000 + (2 + 6 * j + 1) = 1002 + 6 * j + 1 by omega] at this; exact this
    have c2 : G (1002 + 6 * j + 2) = 101 := by have := at_ 2 (by omega); rw [show 1000 + (2 + 6 * j + 2) = 1002 + 6 * j + 2 by omega] at this; exact this
    have c3 : G (1002 + 6 * j + 2 + 1) = 32 + j := by have := at_ 3 (by omega); rw [show 1000 + (2 + 6 * j + 3) = 1002 + 6 * j + 2 + 1 by omega] at this; exact this
    have c4 : G (1002 + 6 * j + 2 + 2) = 133 := by have := at_ 4 (by omega); rw [show 1000 + (2 + 6 * j + 4) = 1002 + 6 * j + 2 + 2 by omega] at this; exact this
    have c5 : G (1002 + 6 * j + 2 + 2 + 1) = 48 + j := by have := at_ 5 (by omega); rw [show 1000 + (2 + 6 * j + 5) = 1002 + 6 * j + 2 + 2 + 1 by omega] at this; exact this
    have r1 : run ⟨0, 0, 1000, M⟩ (2 + 3 * j + 1) = ⟨A j, fres p (A j), 1002 + 6 * j + 2, G⟩ := by
      show nxt (run _ (2 + 3 * j)) = _
      rw [hrun]
      unfold nxt
      simp only [c0, c1, hA]
      rfl
    have r2 : run ⟨0, 0, 1000, M⟩ (2 + 3 * j + 2) = ⟨addR (A j) (B j) p, addP (A j) (B j) p, 1002 + 6 * j + 2 + 2, G⟩ := by
      show nxt (run _ (2 + 3 * j + 1)) = _
      rw [r1]
      unfold nxt
      simp only [c2, c3, hB, e1, e2]
      rfl
    have r3 : run ⟨0, 0, 1000, M⟩ (2 + 3 * j + 3) = ⟨addR (A j) (B j) p, addP (A j) (B j) p, 1002 + 6 * j + 2 + 2 + 2, upM G (48 + j) (addR (A j) (B j) p)⟩ := by
      show nxt (run _ (2 + 3 * j + 2)) = _
      rw [r2]
      unfold nxt
      simp only [c4, c5]
      rfl
    refine ⟨?_, ?_, ?_, addR (A j) (B j) p, addR_lt _ _ _, ?_⟩
    · rw [hrun]
      exact ⟨by show 1002 + 6 * j + 2 ≤ 7000; omega, ha, hPlt, hP5, hML, Or.inr (Or.inr (Or.inr (Or.inl c0)))⟩
    · rw [r1]
      exact ⟨by show 1002 + 6 * j + 2 + 2 ≤ 7000; omega, hAlt, fres_lt hPlt, by show (fres p (A j)).testBit 5 = false; rw [fres_5, hP5], hML, Or.inr (Or.inr (Or.inr (Or.inr (Or.inl c2))))⟩
    · rw [r2]
      exact ⟨by show 1002 + 6 * j + 2 + 2 + 2 ≤ 7000; omega, addR_lt _ _ _, addP_lt hPlt, by show (addP (A j) (B j) p).testBit 5 = false; rw [addP_5, hP5], hML, Or.inr (Or.inr (Or.inr (Or.inr (Or.inr c4))))⟩
    · rw [r3, ← hs, ← hR, hPs, show 1002 + 6 * j + 2 + 2 + 2 = 1002 + 6 * (j + 1) by omega]
  have base : run ⟨0, 0, 1000, M⟩ 2 = ⟨0, p0B dec, 1002, M⟩ := by
    show nxt (nxt ⟨0, 0, 1000, M⟩) = _
    have c0 : M 1000 = 24 := h.c 0 (by omega)
    have c1 : M 1001 = if dec then 248 else 216 := h.c 1 (by omega)
    have n1 : nxt ⟨0, 0, 1000, M⟩ = ⟨0, 0, 1001, M⟩ := by
      unfold nxt
      simp only [c0]
      rfl
    rw [n1]
    unfold nxt
    simp only [c1]
    cases dec <;> rfl
  intro j
  induction j with
  | zero =>
    intro hj
    have e : run ⟨0, 0, 1000, M⟩ (2 + 3 * 0) = ⟨0, lgP false A B (p0B dec) 0, 1002 + 6 * 0, memJ M (lgR false A B (p0B dec)) 0⟩ := by
      rw [show 2 + 3 * 0 = 2 from rfl, base]
      congr 1
      funext x
      unfold memJ
      rw [if_neg (by omega)]
    exact ⟨0, by omega, e, key 0 0 hj (by omega) e⟩
  | succ j ih =>
    intro hj
    obtain ⟨_, _, _, hn⟩ := ih (by omega)
    obtain ⟨_, _, _, a', ha', hr⟩ := hn (by omega)
    have hr : run ⟨0, 0, 1000, M⟩ (2 + 3 * (j + 1)) = _ := hr
    exact ⟨a', ha', hr, key (j + 1) a' hj ha' hr⟩
/-- All the program's states go on. -/
theorem run_ok {M A B : Nat → Nat} {dec : Bool} {k : Nat} (h : Laid M A B dec k) (hk : k ≤ 12) (i : Nat) (hi : i < 2 + 3 * k) : Okk (run ⟨0, 0, 1000, M⟩ i) := by
  have c0 : M 1000 = 24 := h.c 0 (by omega)
  have c1 : M 1001 = if dec then 248 else 216 := h.c 1 (by omega)
  rcases (show i = 0 ∨ i = 1 ∨ 2 ≤ i by omega) with rfl | rfl | h2
  · exact ⟨by show 1000 + 2 ≤ 7000; omega, by show 0 < 256; omega, by show 0 < 256; omega, by show Nat.testBit 0 5 = false; rfl, h.M, Or.inl c0⟩
  · have n1 : run ⟨0, 0, 1000, M⟩ 1 = ⟨0, 0, 1001, M⟩ := by
      show nxt ⟨0, 0, 1000, M⟩ = _
      unfold nxt
      simp only [c0]
      rfl
    rw [n1]
    refine ⟨by show 1001 + 2 ≤ 7000; omega, by show 0 < 256; omega, by show 0 < 256; omega, by show Nat.testBit 0 5 = false; rfl, h.M, ?_⟩
    show M 1001 = 24 ∨ M 1001 = 216 ∨ M 1001 = 248 ∨ M 1001 = 165 ∨ M 1001 = 101 ∨ M 1001 = 133
    rw [c1]
    cases dec <;> simp
  · obtain ⟨j, r, hr, rfl⟩ : ∃ j r, r < 3 ∧ i = 2 + 3 * j + r := ⟨(i - 2) / 3, (i - 2) % 3, by omega, by omega⟩
    obtain ⟨_, _, _, hn⟩ := run_bytes h hk j (by omega)
    obtain ⟨k0, k1, k2, _⟩ := hn (by omega)
    rcases (show r = 0 ∨ r = 1 ∨ r = 2 by omega) with rfl | rfl | rfl
    · exact k0
    · exact k1
    · exact k2
end Go.Proofs.YtplobngbjpgcgaaGreatDoor.Pl
end
