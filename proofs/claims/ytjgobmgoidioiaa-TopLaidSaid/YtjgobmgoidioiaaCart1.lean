/-
  Bytes in a row, pieces in memory; cart: lay, Check; gannetlaw04: small; gannetref04: Check.
-/
import Derived.Test.YtjgobmgoidioiaaRsame
import Derived.Test.YtjgobmgoidioiaaInfo
import Derived.Test.YtjgobmgoidioiaaRet
import Derived.Test.YtjgobmgoidioiaaOpenS
import Derived.Laws.CopyOwn
import Derived.WalkMore
import Derived.Deep.RegionLaw
namespace Go.Proofs.Ytjgobmgoidioiaa
open Go.RowKit

def rowN (N : Nat) (F : Nat → Int) : Array Value := arr N (fun i => .int .u8 (F i))
theorem rowN_congr {N : Nat} {F G : Nat → Int} (h : ∀ i, i < N → F i = G i) : rowN N F = rowN N G := arr_congr fun i hi => by rw [h i hi]
/-- Bytes in a block of their own. -/
def RW (w : World) (g N : Nat) (F : Nat → Int) : Prop := Blk w g 5 (rowN N F)
theorem RW.cell {w : World} {g N : Nat} {F : Nat → Int} (h : RW w g N F) (i : Nat) (hi : i < N) : w.cell? ⟨g, i, none⟩ = some (.int .u8 (F i)) := (Blk.cell h i).trans (arr_get N _ i hi)
theorem RW.nums {w : World} {g N : Nat} {F : Nat → Int} (h : RW w g N F) : NumsAt w .u8 (some ⟨g, 0, none⟩) N F := fun i hi => ⟨g, 0, rfl, Blk.lt h, by rw [Nat.zero_add]; exact h.cell i hi⟩
theorem RW.set {w : World} {g N : Nat} {F : Nat → Int} (h : RW w g N F) (i : Nat) (hi : i < N) (v : Int) : RW (w.setCell ⟨g, i, none⟩ (.int .u8 v)) g N (fun j => if j = i then v else F j) := by
  have h1 := Blk.set_ h i (.int .u8 v)
  have e : (rowN N F).setIfInBounds i (.int .u8 v) = rowN N (fun j => if j = i then v else F j) := by
    unfold rowN
    rw [arr_set N _ i _ hi]
    refine arr_congr fun j _ => ?_
    unfold updv
    dsimp only
    by_cases hj : j = i
    · rw [if_pos hj, if_pos hj]
    · rw [if_neg hj, if_neg hj]
  rw [e] at h1
  exact h1
theorem RW.congr {w : World} {g N : Nat} {F G : Nat → Int} (h : RW w g N F) (e : ∀ i, i < N → F i = G i) : RW w g N G := by
  unfold RW at h ⊢
  rw [← rowN_congr e]
  exact h
/-- Bytes laid over others. -/
def layF (F : Nat → Int) (p n : Nat) (L : Nat → Int) : Nat → Int := fun i => if p ≤ i ∧ i < p + n then L (i - p) else F i
def lst (n : Nat) (L : Nat → Int) : List Value := (List.range n).map fun i => .int .u8 (L i)
theorem lst_length (n : Nat) (L : Nat → Int) : (lst n L).length = n := by simp [lst]
theorem lst_get (n : Nat) (L : Nat → Int) (i : Nat) : (lst n L)[i]? = if i < n then some (.int .u8 (L i)) else none := by
  unfold lst
  by_cases h : i < n
  · simp [h]
  · simp [h]
theorem splice_row {N p n : Nat} {F L : Nat → Int} (hp : p + n ≤ N) : (splice (lst N F) p (lst n L)).toArray = rowN N (layF F p n L) := by
  unfold rowN arr
  congr 1
  apply List.ext_getElem?
  intro i
  have hr : ((List.range N).map fun i => Value.int .u8 (layF F p n L i))[i]? = if i < N then some (.int .u8 (layF F p n L i)) else none := by
    by_cases h : i < N
    · simp [h]
    · simp [h]
  rw [hr]
  unfold splice
  rw [List.getElem?_append, List.getElem?_append, List.getElem?_take, List.getElem?_drop, List.length_take, lst_length, lst_length, lst_get, lst_get, lst_get]
  unfold layF
  have hm : min p N = p := by omega
  rw [hm]
  by_cases h1 : i < p
  · rw [if_pos h1, if_pos h1]
    by_cases h2 : i < N
    · rw [if_pos h2, if_pos h2, if_neg (by omega)]
    · omega
  · rw [if_neg h1]
    by_cases h3 : i - p < n
    · rw [if_pos h3, if_pos h3, if_pos (by omega), if_pos (by omega)]
    · rw [if_neg h3]
      by_cases h4 : i < N
      · rw [if_pos (by omega), if_pos h4, if_neg (by omega), show p + n + (i - p - n) = i from by omega]
      · rw [if_neg (by omega), if_neg h4]
theorem lst_one (n : Nat) (L : Nat → Int) : ∀ v ∈ lst n L, v.oneCell' = true := by
  intro v hv
  simp only [lst, List.mem_map] at hv
  obtain ⟨j, _, rfl⟩ := hv
  rfl
theorem lst_src {w : World} {o : Option Addr} {n : Nat} {L : Nat → Int} (hL : NumsAt w .u8 o n L) (h0 : 0 < (lst n L).length) : ∃ ad, o = some ad ∧ ∀ j v, (lst n L)[j]? = some v → w.cell? (ad.add j) = some v := by
  rw [lst_length] at h0
  obtain ⟨b, off, ha, _, _⟩ := hL 0 h0
  refine ⟨_, ha, fun j v hv => ?_⟩
  rw [lst_get] at hv
  by_cases hj : j < n
  · rw [if_pos hj] at hv
    cases hv
    obtain ⟨b', off', ha', _, hc⟩ := hL j hj
    rw [ha] at ha'
    cases ha'
    rw [add_plain]
    exact hc
  · rw [if_neg hj] at hv; cases hv
/-- Pieces, all in blocks below B. -/
def PieB (w : World) (a : Option Addr) (n : Nat) (At : Nat → Int) (O : Nat → Option Addr) (Ln Cp : Nat → Nat) (By : Nat → Nat → Int) (B : Nat) : Prop :=
  ∀ i, i < n → ∃ b off, a = some ⟨b, off, none⟩ ∧ b < B ∧ w.cell? ⟨b, off + i * 2, none⟩ = some (.int .i64 (At i)) ∧ w.cell? ⟨b, off + i * 2 + 1, none⟩ = some (.slice (O i) (Ln i) (Cp i)) ∧ NumsB w .u8 (O i) (Ln i) (By i) B
section
variable {w w' : World} {a : Option Addr} {n : Nat} {At : Nat → Int} {O : Nat → Option Addr} {Ln Cp : Nat → Nat} {By : Nat → Nat → Int} {B m : Nat}
theorem PieB.only {S : Nat → Prop} (h : PieB w a n At O Ln Cp By B) (ho : Only S w w') (hs : ∀ j, j < B → ¬ S j) : PieB w' a n At O Ln Cp By B := fun i hi => by
  obtain ⟨b, off, ha, hlt, h0, h1, h2⟩ := h i hi
  have e := ho.block b (cell_lt h0) (hs b hlt)
  exact ⟨b, off, ha, hlt, (World.cell?_of_block e).trans h0, (World.cell?_of_block e).trans h1, h2.only ho hs⟩
theorem NumsB.mono {k : IntKind} {L : Nat → Int} {B' : Nat} (h : NumsB w k a n L B) (hb : B ≤ B') : NumsB w k a n L B' := fun i hi => by
  obtain ⟨b, off, ha, hlt, r⟩ := h i hi
  exact ⟨b, off, ha, by omega, r⟩
theorem NumsB.below {k : IntKind} {L : Nat → Int} (h : NumsB w k a n L B) (hb : Below m w w') (hB : B ≤ m) : NumsB w' k a n L B := fun i hi => by
  obtain ⟨b, off, ha, hlt, h0⟩ := h i hi
  exact ⟨b, off, ha, hlt, (World.cell?_of_block (hb.block b (by omega))).trans h0⟩
theorem PieB.mono {B' : Nat} (h : PieB w a n At O Ln Cp By B) (hb : B ≤ B') : PieB w a n At O Ln Cp By B' := fun i hi => by
  obtain ⟨b, off, ha, hlt, h0, h1, h2⟩ := h i hi
  exact ⟨b, off, ha, by omega, h0, h1, h2.mono hb⟩
theorem PieB.below (h : PieB w a n At O Ln Cp By B) (hb : Below m w w') (hB : B ≤ m) : PieB w' a n At O Ln Cp By B := fun i hi => by
  obtain ⟨b, off, ha, hlt, h0, h1, h2⟩ := h i hi
  have e := hb.block b (by omega)
  exact ⟨b, off, ha, hlt, (World.cell?_of_block e).trans h0, (World.cell?_of_block e).trans h1, h2.below hb hB⟩
end
/-- Does a piece lie within? -/
def Fits (N : Nat) (p : Int) (n : Nat) : Prop := 0 ≤ p ∧ p + n ≤ N
theorem lay_ok (g N p n c : Nat) (F L : Nat → Int) (o : Option Addr) (w : World) (hN : N ≤ 1048576) (hp : p + n ≤ N) (hR : RW w g N F) (hL : NumsAt w .u8 o n L) :
    Calls Try.prog 14 #[.slice (some ⟨g, 0, none⟩) N N, .agg #[.int .i64 (p : Int), .slice o n c]] w fun e w' => e = .returned (.bool true) ∧ RW w' g N (layF F p n L) ∧ Below g w w' := by
  have hgl := Blk.lt hR
  have hX : Blk (w.alloc (.cells #[.int .i64 (p : Int), .slice o n c] 48)) w.heap.size 48 #[.int .i64 (p : Int), .slice o n c] := Blk.new _ _ _
  have hb1 : Below g w (w.alloc (.cells #[.int .i64 (p : Int), .slice o n c] 48)) := (Below.refl _ _).alloc (Nat.le_of_lt hgl) _
  have hR1 : RW (w.alloc (.cells #[.int .i64 (p : Int), .slice o n c] 48)) g N F := Blk.alloc hR _
  have hL1 : NumsAt (w.alloc (.cells #[.int .i64 (p : Int), .slice o n c] 48)) .u8 o n L := hL.below ((Below.refl w.heap.size w).alloc (Nat.le_refl _) _) (Nat.le_refl _)
  have i1 : (decide ((p : Int) < 0)) = false := by rw [decide_eq_false_iff_not]; omega
  have i2 : (decide ((N : Int) < (p : Int))) = false := by rw [decide_eq_false_iff_not]; omega
  have i3 : (decide ((N : Int) - (p : Int) < (n : Int))) = false := by rw [decide_eq_false_iff_not]; omega
  have i4 : (p : Int) ≤ (N : Int) := by omega
  obtain ⟨i0, hi, hz0, hz1, hz2⟩ := info_parts infoU8
  have hsz1 : (Try.prog.info? 5).map (·.size) = some 1 := by rw [hi]; simp [hz1]
  go_enter Try.func14, Try.ntmps14
  go_wp2_with fail
  generalize w.alloc (.cells #[.int .i64 (p : Int), .slice o n c] 48) = w1 at *
  have x0 : w1.drew.cell? ⟨w.heap.size, 0, none⟩ = some (.int .i64 (p : Int)) := hX.cell 0
  have x1 : w1.drew.cell? ⟨w.heap.size, 1, none⟩ = some (.slice o n c) := hX.cell 1
  have hg : w1.drew.heap[g]? = some (.cells (lst N F).toArray 5 (0, 0)) := hR1
  have hsrc : 0 < (lst n L).length → ∃ ad, o = some ad ∧ ∀ j v, (lst n L)[j]? = some v → w1.drew.cell? (ad.add j) = some v := fun h0 => lst_src hL1 h0
  have hn' : (lst n L).length = Nat.min n (N - p) := by rw [lst_length]; exact (Nat.min_eq_left (by omega)).symm
  have hfit : p + (lst n L).length ≤ (lst N F).length := by rw [lst_length, lst_length]; exact hp
  have hif : 0 < (lst n L).length → (if N = p then some (⟨g, 0, none⟩ : Addr) else some ⟨g, p, none⟩) = some ⟨g, p, none⟩ := fun h0 => if_neg (by rw [lst_length] at h0; omega)
  clear hL hL1 hR hR1 i4
  go_region_law (first
    | (refine step_copy_splice (by rfl) (.tmp 29) (.tmp 31) 27 27 (by rfl) 5 Try.underlying27 hsz1 _ o (N - p) _ n c (by rfl) (by rfl) g p (lst N F) 5 hg (lst n L) hn' (fun h0 => ⟨hif h0, hsrc h0⟩) hfit (lst_one n L) g w hb1.drew (Nat.le_refl _) ?_; intro w2 hG hB))
  all_goals
    have hG2 := hG.out
    rw [splice_row hp] at hG2
    go_wp2_with fail
    all_goals
      go_ret
      exact ⟨rfl, by first | exact hG2 | (subst_vars; exact hG2), hB⟩
theorem lay_bad (N n c : Nat) (p : Int) (r o : Option Addr) (cr : Nat) (w : World) (hN : N ≤ 1048576) (h : ¬ Fits N p n) :
    Calls Try.prog 14 #[.slice r N cr, .agg #[.int .i64 p, .slice o n c]] w fun e w' => e = .returned (.bool false) ∧ Below w.heap.size w w' := by
  have hX : Blk (w.alloc (.cells #[.int .i64 (p : Int), .slice o n c] 48)) w.heap.size 48 #[.int .i64 (p : Int), .slice o n c] := Blk.new _ _ _
  have hb1 : Below w.heap.size w (w.alloc (.cells #[.int .i64 (p : Int), .slice o n c] 48)) := (Below.refl _ _).alloc (Nat.le_refl _) _
  unfold Fits at h
  by_cases h1 : p < 0
  · clear h
    go_enter Try.func14, Try.ntmps14
    go_wp2_with fail
    go_ret
    exact ⟨rfl, hb1⟩
  · have i1 : (decide (p < 0)) = false := decide_eq_false h1
    by_cases h2 : (N : Int) < p
    · clear h h1
      go_enter Try.func14, Try.ntmps14
      go_wp2_with fail
      go_ret
      exact ⟨rfl, hb1⟩
    · have i2 : (decide ((N : Int) < p)) = false := decide_eq_false h2
      have i3 : (N : Int) - p < (n : Int) := by omega
      obtain ⟨q, rfl⟩ : ∃ q : Nat, p = (q : Int) := ⟨p.toNat, by omega⟩
      have i4 : (q : Int) ≤ (N : Int) := by omega
      clear h h1 h2
      go_enter Try.func14, Try.ntmps14
      go_wp2_with fail
      go_ret
      exact ⟨rfl, hb1⟩
/-- How many bytes a page has. -/
def ChkOk (n : Nat) : Prop := 1 ≤ n / 8192 ∧ n / 8192 ≤ 128 ∧ n % 8192 = 0
theorem ctCheck_ok (n c : Nat) (o : Option Addr) (w : World) (h : ChkOk n) :
    Calls Try.prog 16 #[.slice o n c] w fun e w' => e = .returned (.int .i64 0) ∧ w = w' := by
  obtain ⟨h1, h2, h3⟩ := h
  obtain ⟨q, hq⟩ : ∃ q, n / 8192 = q := ⟨_, rfl⟩
  have j1 : (n : Int).tdiv 8192 = (q : Int) := by rw [Int.tdiv_eq_ediv_of_nonneg (by omega)]; omega
  have j2 : (n : Int).tmod 8192 = 0 := by rw [Int.tmod_eq_emod_of_nonneg (by omega)]; omega
  have j3 : (n : Int) / 8192 = (q : Int) := by omega
  have j4 : (n : Int) % 8192 = 0 := by omega
  have i1 : (decide ((q : Int) < 1)) = false := by rw [decide_eq_false_iff_not]; omega
  have i2 : (decide ((128 : Int) < (q : Int))) = false := by rw [decide_eq_false_iff_not]; omega
  go_enter Try.func16, Try.ntmps16
  go_wp2_with fail
  go_ret
  exact ⟨rfl, rfl⟩
theorem ctCheck_bad (n c : Nat) (o : Option Addr) (w : World) (hn : n ≤ maxLen) (h : ¬ ChkOk n) :
    Calls Try.prog 16 #[.slice o n c] w fun e w' => e = .returned (.int .i64 6) ∧ w = w' := by
  unfold ChkOk at h
  unfold maxLen at hn
  obtain ⟨q, hq⟩ : ∃ q, n / 8192 = q := ⟨_, rfl⟩
  have j1 : (n : Int).tdiv 8192 = (q : Int) := by rw [Int.tdiv_eq_ediv_of_nonneg (by omega)]; omega
  have j3 : (n : Int) / 8192 = (q : Int) := by omega
  by_cases h1 : q < 1
  · have i1 : (q : Int) < 1 := by omega
    clear h h1 hq
    go_enter Try.func16, Try.ntmps16
    go_wp2_with fail
    go_ret
    exact ⟨rfl, rfl⟩
  · have i1 : (decide ((q : Int) < 1)) = false := by rw [decide_eq_false_iff_not]; omega
    by_cases h2 : 128 < q
    · have i2 : (128 : Int) < (q : Int) := by omega
      clear h h1 hq
      go_enter Try.func16, Try.ntmps16
      go_wp2_with fail
      go_ret
      exact ⟨rfl, rfl⟩
    · have i2 : (decide ((128 : Int) < (q : Int))) = false := by rw [decide_eq_false_iff_not]; omega
      obtain ⟨m, hm⟩ : ∃ m, n % 8192 = m := ⟨_, rfl⟩
      have j2 : (n : Int).tmod 8192 = (m : Int) := by rw [Int.tmod_eq_emod_of_nonneg (by omega)]; omega
      have j4 : (n : Int) % 8192 = (m : Int) := by omega
      have i3 : ((m : Int) != 0) = true := by rw [bne_iff_ne]; omega
      clear h h1 h2 hq hm
      go_enter Try.func16, Try.ntmps16
      go_wp2_with fail
      go_ret
      exact ⟨rfl, rfl⟩
/-- Not too many. -/
def Small (n : Nat) (Ln : Nat → Nat) : Prop := n ≤ 20 ∧ ∀ i, i < n → Ln i ≤ 20000
end Go.Proofs.Ytjgobmgoidioiaa
