/-
  Package mmu: the pages of a mask, Set.
-/
import Derived.RangeFuncNested
import Derived.RangeFuncBound
import Derived.RangeFuncCalls
import Derived.RangeFuncLeaves
import Derived.Shelf.Abstract
import Derived.Shelf.RegionOpen
import Derived.WalkKit
import Derived.OwnWalkIn
import Derived.TacticsInMore
import Derived.LoopNIn
import Derived.LoopIn
import Derived.Test.YtemfdkoipeedeaaRnd
import Derived.Test.YtemfdkoipeedeaaObit
import Derived.Test.YtemfdkoipeedeaaOnly
namespace Go.Proofs.Ytemfdkoipeedeaa
set_option linter.unusedSimpArgs false
set_option linter.unusedVariables false
set_option maxRecDepth 10000
open Go.RowKit Go.Shelf Pl
attribute [local go_sem] Oper.semAt_some

/-- The blocks from lo to hi lie as they lay. -/
def KpS (lo hi : Nat) (W W' : World) : Prop := W.heap.size ≤ W'.heap.size ∧ ∀ b, lo ≤ b → b < hi → W'.heap[b]? = W.heap[b]?
theorem KpS.t {lo hi : Nat} {A B C : World} (h : KpS lo hi A B) (k : KpS lo hi B C) : KpS lo hi A C := ⟨Nat.le_trans h.1 k.1, fun b h1 h2 => (k.2 b h1 h2).trans (h.2 b h1 h2)⟩
theorem KpS.b {lo hi : Nat} {w : World} (hn : hi ≤ w.heap.size) (W : World) (l : Nat) (o o' : Obj) (hl : w.heap.size ≤ l) (_ : W.heap[l]? = some o) (_ : o.isCells = false) (_ : o.isWalk = false) : KpS lo hi W (W.putObj l o') :=
  ⟨(grownBy_putObj' W l o').size, fun b _ h2 => World.putObj_heap_other (by omega)⟩
theorem KpS.setCell {lo hi : Nat} (W : World) (p : Addr) (hp : ¬ (lo ≤ p.block ∧ p.block < hi)) (v : Value) : KpS lo hi W (W.setCell p v) :=
  ⟨by simp [World.setCell], fun b h1 h2 => Below.heap_setCell _ _ _ _ (fun e => hp (e ▸ ⟨h1, h2⟩))⟩
theorem Blk.kpS {lo hi : Nat} {W W' : World} {g : Nat} {t : TypeId} {cs : Array Value} (h : Blk W g t cs) (k : KpS lo hi W W') (h1 : lo ≤ g) (h2 : g < hi) : Blk W' g t cs := (k.2 g h1 h2).trans h
theorem ownFrom_only {β : Type} {S : Nat → Prop} {w : World} {B : Nat} (hB : w.heap.size ≤ B) : OwnFrom B (fun (_ : β) W => Only S w W) := fun _ X Y row hs hg hr =>
  ⟨hg.os.trans hs.os, hg.tape.trans hs.tape, hg.output.trans hs.output, Nat.le_trans hs.size hg.size, fun k hk hn => (hg.block k (Nat.lt_of_lt_of_le hk hs.size) (fun e => by have := (hr k e.symm).1; omega)).trans (hs.block k hk hn)⟩
def updn (A : Nat → Nat) (j v : Nat) : Nat → Nat := fun i => if i = j then v else A i
/-- The cells of eight pages, and what was moved last. -/
def mc (A : Nat → Nat) (l : Nat) : Array Value := #[.int .u8 (A 0 : Int), .int .u8 (A 1 : Int), .int .u8 (A 2 : Int), .int .u8 (A 3 : Int), .int .u8 (A 4 : Int), .int .u8 (A 5 : Int), .int .u8 (A 6 : Int), .int .u8 (A 7 : Int), .int .u8 (l : Int)]
def bk8 (A : Nat → Nat) : Array Value := #[.int .u8 (A 0 : Int), .int .u8 (A 1 : Int), .int .u8 (A 2 : Int), .int .u8 (A 3 : Int), .int .u8 (A 4 : Int), .int .u8 (A 5 : Int), .int .u8 (A 6 : Int), .int .u8 (A 7 : Int)]
theorem mc_get (A : Nat → Nat) (l n : Nat) (h : n < 8) : (mc A l)[n]? = some (.int .u8 (A n : Int)) := by
  match n, h with
  | 0, _ | 1, _ | 2, _ | 3, _ | 4, _ | 5, _ | 6, _ | 7, _ => rfl
theorem mc_set (A : Nat → Nat) (l n v : Nat) (h : n < 8) : (mc A l).setIfInBounds n (.int .u8 (v : Int)) = mc (updn A n v) l := by
  match n, h with
  | 0, _ | 1, _ | 2, _ | 3, _ | 4, _ | 5, _ | 6, _ | 7, _ => simp [mc, updn]
theorem mc_last (A : Nat → Nat) (l v : Nat) : (mc A l).setIfInBounds 8 (.int .u8 (v : Int)) = mc A v := by simp [mc]
theorem mc_congr {A B : Nat → Nat} (l : Nat) (h : ∀ i, i < 8 → A i = B i) : mc A l = mc B l := by
  unfold mc
  rw [h 0 (by omega), h 1 (by omega), h 2 (by omega), h 3 (by omega), h 4 (by omega), h 5 (by omega), h 6 (by omega), h 7 (by omega)]
def MB (w : World) (g : Nat) (A : Nat → Nat) (l : Nat) : Prop := Blk w g 51 (mc A l)
theorem MB.get {w : World} {g : Nat} {A : Nat → Nat} {l : Nat} (h : MB w g A l) (n : Nat) (hn : n < 8) : w.cell? ⟨g, n, none⟩ = some (.int .u8 (A n : Int)) := (Blk.cell h n).trans (mc_get A l n hn)
theorem MB.set {w : World} {g : Nat} {A : Nat → Nat} {l : Nat} (h : MB w g A l) (n v : Nat) (hn : n < 8) : MB (w.setCell ⟨g, n, none⟩ (.int .u8 (v : Int))) g (updn A n v) l := by
  unfold MB
  rw [← mc_set A l n v hn]
  exact Blk.set_ h n _
theorem MB.setLast {w : World} {g : Nat} {A : Nat → Nat} {l : Nat} (h : MB w g A l) (v : Nat) : MB (w.setCell ⟨g, 8, none⟩ (.int .u8 (v : Int))) g A v := by
  unfold MB
  rw [← mc_last A l v]
  exact Blk.set_ h 8 _
theorem MB.congr {w : World} {g : Nat} {A B : Nat → Nat} {l : Nat} (h : MB w g A l) (e : ∀ i, i < 8 → A i = B i) : MB w g B l := by
  unfold MB at *
  rw [← mc_congr l e]
  exact h

/-- A page's number. -/
abbrev Pg := { x : Nat // x < 8 }
/-- The pages below j of which p holds. -/
def eL (p : Nat → Bool) : Nat → List Pg
  | 0 => []
  | j + 1 => eL p j ++ (if h : j < 8 ∧ p j = true then [⟨j, h.1⟩] else [])
theorem eL_len (p : Nat → Bool) : ∀ j, (eL p j).length ≤ j
  | 0 => Nat.le_refl _
  | j + 1 => by
    have := eL_len p j
    unfold eL
    rw [List.length_append]
    split <;> simp <;> omega
theorem eL_yes (p : Nat → Bool) (j : Nat) (h : j < 8) (hp : p j = true) : eL p (j + 1) = eL p j ++ [⟨j, h⟩] := by
  show eL p j ++ _ = _
  rw [dif_pos ⟨h, hp⟩]
theorem eL_no (p : Nat → Bool) (j : Nat) (hp : p j = false) : eL p (j + 1) = eL p j := by
  show eL p j ++ _ = _
  rw [dif_neg (by rw [hp]; simp), List.append_nil]
theorem eL_pre (p : Nat → Bool) : ∀ (d j : Nat), eL p j <+: eL p (j + d)
  | 0, j => List.prefix_refl _
  | d + 1, j => (eL_pre p d j).trans (by rw [show j + (d + 1) = (j + d) + 1 from rfl]; exact List.prefix_append _ _)
theorem eL_mem (p : Nat → Bool) : ∀ (j : Nat) (x : Pg), x ∈ eL p j ↔ x.1 < j ∧ p x.1 = true
  | 0, x => by simp [eL]
  | j + 1, x => by
    unfold eL
    rw [List.mem_append, eL_mem p j x]
    by_cases h : j < 8 ∧ p j = true
    · rw [dif_pos h, List.mem_singleton]
      constructor
      · rintro (⟨h1, h2⟩ | rfl)
        · exact ⟨by omega, h2⟩
        · exact ⟨by simp, h.2⟩
      · rintro ⟨h1, h2⟩
        by_cases e : x.1 = j
        · exact Or.inr (Subtype.ext e)
        · exact Or.inl ⟨by omega, h2⟩
    · rw [dif_neg h]
      constructor
      · rintro (⟨h1, h2⟩ | h1)
        · exact ⟨by omega, h2⟩
        · cases h1
      · rintro ⟨h1, h2⟩
        by_cases e : x.1 = j
        · exact absurd ⟨by have := x.2; omega, by rw [← e]; exact h2⟩ h
        · exact Or.inl ⟨by omega, h2⟩
theorem abides_below {α : Type} {n : Nat} {J : List α → World → Prop} (hJ : AbidesFrom n J) {pre : List α} {W W' : World} (h : J pre W) (hb : Below W.heap.size W W') : J pre W' :=
  hJ pre W W' none h ⟨hb.os, hb.tape, hb.output, hb.size, fun k hk _ => hb.block k hk⟩ (fun r e => by cases e)
def tbN (k i : Nat) : Bool := tb k (i : Int)
def setL (A : Nat → Nat) (b : Nat) (l : List Pg) : Nat → Nat := l.foldl (fun A x => updn A x.1 b) A
theorem setL_snoc (A : Nat → Nat) (b : Nat) (l : List Pg) (x : Pg) : setL A b (l ++ [x]) = updn (setL A b l) x.1 b := by simp [setL]
theorem setL_get (b : Nat) (i : Nat) : ∀ (l : List Pg) (A : Nat → Nat), setL A b l i = if (∃ x ∈ l, x.1 = i) then b else A i
  | [], A => by simp [setL]
  | y :: l, A => by
    show setL (updn A y.1 b) b l i = _
    rw [setL_get b i l]
    by_cases h : ∃ x ∈ l, x.1 = i
    · rw [if_pos h, if_pos (by obtain ⟨x, h1, h2⟩ := h; exact ⟨x, List.mem_cons_of_mem _ h1, h2⟩)]
    · rw [if_neg h]
      unfold updn
      by_cases e : i = y.1
      · rw [if_pos e, if_pos ⟨y, List.mem_cons_self, e.symm⟩]
      · rw [if_neg e, if_neg (fun ⟨x, h1, h2⟩ => by
          rcases List.mem_cons.1 h1 with rfl | h1
          · exact e h2.symm
          · exact h ⟨x, h1, h2⟩)]
/-- Eight pages when b was moved to those of the mask k. -/
def setK (k b : Nat) (A : Nat → Nat) : Nat → Nat := fun i => if tbN k i = true then b else A i
theorem setL_eL (k b : Nat) (A : Nat → Nat) (i : Nat) (h : i < 8) : setL A b (eL (tbN k) 8) i = setK k b A i := by
  rw [setL_get]
  unfold setK
  by_cases hp : tbN k i = true
  · rw [if_pos hp, if_pos ⟨⟨i, h⟩, (eL_mem _ _ _).2 ⟨h, hp⟩, rfl⟩]
  · rw [if_neg hp, if_neg (fun ⟨x, h1, h2⟩ => hp (by rw [← h2]; exact ((eL_mem _ _ _).1 h1).2))]
end Go.Proofs.Ytemfdkoipeedeaa
