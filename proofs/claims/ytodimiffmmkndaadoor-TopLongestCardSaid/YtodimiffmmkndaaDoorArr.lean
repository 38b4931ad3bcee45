/-
  Small facts on arrays in blocks of the call's own, and on blocks that are known whole.
-/
import Derived.Test.YtodimiffmmkndaaDoorBits
import Derived.WalkKit
namespace Go.Proofs.YtodimiffmmkndaaDoor
set_option linter.unusedSimpArgs false
set_option linter.unusedVariables false
set_option maxRecDepth 10000
open Go.RowKit Pl

/-- The cells of an array of eight bools. -/
def bools (f : Nat → Bool) : Array Value := #[.bool (f 0), .bool (f 1), .bool (f 2), .bool (f 3), .bool (f 4), .bool (f 5), .bool (f 6), .bool (f 7)]
theorem bools_size (f : Nat → Bool) : (bools f).size = 8 := rfl
theorem bools_get (f : Nat → Bool) (j : Nat) (h : j < 8) : (bools f)[j]? = some (.bool (f j)) := by
  match j, h with
  | 0, _ | 1, _ | 2, _ | 3, _ | 4, _ | 5, _ | 6, _ | 7, _ => rfl
theorem bools_set (f : Nat → Bool) (j : Nat) (b : Bool) (h : j < 8) : (bools f).setIfInBounds j (.bool b) = bools (upd f j b) := by
  match j, h with
  | 0, _ | 1, _ | 2, _ | 3, _ | 4, _ | 5, _ | 6, _ | 7, _ => simp [bools, upd]
theorem bools_congr {f g : Nat → Bool} (h : ∀ i, i < 8 → f i = g i) : bools f = bools g := by
  unfold bools
  rw [h 0 (by omega), h 1 (by omega), h 2 (by omega), h 3 (by omega), h 4 (by omega), h 5 (by omega), h 6 (by omega), h 7 (by omega)]

/-- The cells of an array, by place. -/
def arr (n : Nat) (f : Nat → Value) : Array Value := ((List.range n).map f).toArray
def updv (f : Nat → Value) (j : Nat) (v : Value) : Nat → Value := fun i => if i = j then v else f i
theorem arr_size (n : Nat) (f : Nat → Value) : (arr n f).size = n := by simp [arr]
theorem arr_get (n : Nat) (f : Nat → Value) (j : Nat) (h : j < n) : (arr n f)[j]? = some (f j) := by simp [arr, h]
theorem arr_congr {n : Nat} {f g : Nat → Value} (h : ∀ i, i < n → f i = g i) : arr n f = arr n g := by
  unfold arr
  congr 1
  exact List.map_congr_left fun i hi => h i (by simpa using hi)
theorem arr_set (n : Nat) (f : Nat → Value) (j : Nat) (v : Value) (h : j < n) : (arr n f).setIfInBounds j v = arr n (updv f j v) := by
  apply Array.ext_getElem?
  intro i
  rw [Array.getElem?_setIfInBounds]
  by_cases hi : i < n
  · rw [arr_get n _ i hi, arr_get n _ i hi, arr_size]
    unfold updv
    by_cases e : j = i
    · subst e; simp [h]
    · rw [if_neg e, if_neg (fun x => e x.symm)]
  · have h1 : (arr n f)[i]? = none := Array.getElem?_eq_none (by rw [arr_size]; omega)
    have h2 : (arr n (updv f j v))[i]? = none := Array.getElem?_eq_none (by rw [arr_size]; omega)
    rw [h1, h2, if_neg (by omega)]

/-- Block g is just these cells, none frozen. -/
def Blk (w : World) (g : Nat) (t : TypeId) (cs : Array Value) : Prop := w.heap[g]? = some (.cells cs t (0, 0))
section
variable {w w' : World} {g : Nat} {t : TypeId} {cs : Array Value}
theorem Blk.lt (h : Blk w g t cs) : g < w.heap.size := by
  rcases Nat.lt_or_ge g w.heap.size with hlt | hge
  · exact hlt
  · unfold Blk at h; rw [Array.getElem?_eq_none hge] at h; cases h
theorem Blk.cell (h : Blk w g t cs) (i : Nat) : w.cell? ⟨g, i, none⟩ = cs[i]? := cell_of_row w g i cs t (0, 0) h
theorem Blk.frozen (h : Blk w g t cs) (i : Nat) : w.frozen? ⟨g, i, none⟩ = false := by
  unfold Blk at h
  simp [World.frozen?, h]
theorem Blk.new (w : World) (t : TypeId) (cs : Array Value) : Blk (w.alloc (.cells cs t)) w.heap.size t cs := heap_alloc_new w _
theorem Blk.drew (h : Blk w g t cs) : Blk w.drew g t cs := h
theorem Blk.alloc (h : Blk w g t cs) (o : Obj) : Blk (w.alloc o) g t cs := (Below.heap_alloc w o g h.lt).trans h
theorem Blk.set_ (h : Blk w g t cs) (i : Nat) (u : Value) : Blk (w.setCell ⟨g, i, none⟩ u) g t (cs.setIfInBounds i u) := by
  unfold Blk at h ⊢
  simp [World.setCell, Array.getElem?_modify, h]
theorem Blk.far (h : Blk w g t cs) {p : Addr} (hp : g ≠ p.block) (u : Value) : Blk (w.setCell p u) g t cs := (Below.heap_setCell w p u g hp).trans h
theorem setRow_block (w : World) (g : Nat) (cs : Array Value) (k : Nat) (h : k ≠ g) : (w.setRow g cs).heap[k]? = w.heap[k]? := by
  simp only [World.setRow, Array.getElem?_modify]
  rw [if_neg (fun e => h e.symm)]
theorem setRow_size (w : World) (g : Nat) (cs : Array Value) : (w.setRow g cs).heap.size = w.heap.size := by simp [World.setRow]
theorem Blk.setRow (h : Blk w g t cs) (cs' : Array Value) : Blk (w.setRow g cs') g t cs' := setRow_heap w g cs cs' t (0, 0) h
theorem Blk.setRow_far (h : Blk w g t cs) {g' : Nat} (hne : g ≠ g') (cs' : Array Value) : Blk (w.setRow g' cs') g t cs := (setRow_block w g' cs' g hne).trans h
theorem below_setRow {B : Nat} {a w : World} (h : Below B a w) {g : Nat} (hg : B ≤ g) (cs : Array Value) : Below B a (w.setRow g cs) :=
  h.trans ⟨rfl, rfl, rfl, by rw [setRow_size]; exact Nat.le_refl _, fun k hk => setRow_block _ _ _ _ (by omega)⟩
theorem setRow_new (w : World) (c c' : Array Value) (t : TypeId) : (w.alloc (.cells c t)).setRow w.heap.size c' = w.alloc (.cells c' t) := by
  simp only [World.setRow, World.alloc]
  congr 1
  apply Array.ext_getElem?
  intro i
  rw [Array.getElem?_modify]
  by_cases h : w.heap.size = i
  · subst h
    simp
  · have h' : ¬ i = w.heap.size := fun e => h e.symm
    simp [h, h', Array.getElem?_push]
theorem Blk.below {B : Nat} (h : Blk w g t cs) (hb : Below B w w') (hg : g < B) : Blk w' g t cs := (hb.block g hg).trans h
theorem Blk.grown {row : Option Nat} (h : Blk w g t cs) (hb : w.grownBy w' row) (hg : some g ≠ row) : Blk w' g t cs := (hb.block g h.lt hg).trans h
end

section
variable {P : Program}
theorem run_part_one {e : TypeId} {n : Nat} {f : Nat → Value} (he : ∀ w, (isAgg e).run P w = .ok false w) (i : Nat) (hi : i < n) (w : World) : (part e (arr n f) (i * 1)).run P w = .ok (f i) w := by
  have h := arr_get n f i hi
  rw [Array.getElem?_eq_some_iff] at h
  obtain ⟨h1, h2⟩ := h
  simp [part, he, Sem.run_bind, arr_get n f i hi]

theorem run_equalIn_arr (d : Nat) (t e : TypeId) (n : Nat) (ht : P.underlying t = some (.array n e)) (hsz : ∀ w, (sizeOf e).run P w = .ok 1 w) (he : ∀ w, (isAgg e).run P w = .ok false w)
    (f g : Nat → Value) (q : Nat → Bool) (h : ∀ i, i < n → ∀ w, (Op.equalIn d e (f i) (g i)).run P w = .ok (q i) w) (w : World) :
    (Op.equalIn (d + 1) t (.agg (arr n f)) (.agg (arr n g))).run P w = .ok ((List.range n).all q) w := by
  rw [List.range_eq_range', Op.equalIn]
  simp only [Sem.run_bind, run_underlying ht, Result.andThen_ok, hsz, Std.Legacy.Range.forIn_eq_forIn_range', Std.Legacy.Range.size, Nat.sub_zero, Nat.add_sub_cancel, Nat.div_one]
  have hl : ∀ i ∈ List.range' 0 n 1, i < n := fun i hi => by simpa using (List.mem_range'_1.1 hi).2
  generalize List.range' 0 n 1 = l at hl ⊢
  induction l with
  | nil => simp
  | cons i l ih =>
    have hi : i < n := hl i (by simp)
    simp only [List.forIn_cons, Sem.run_bind, run_part_one he i hi, h i hi, Result.andThen_ok, List.all_cons]
    cases hb : q i
    · simp
    · simp only [Bool.not_true, Bool.false_eq_true, if_false, Sem.run_pure, Result.andThen_ok, Bool.true_and]
      exact ih fun j hj => hl j (by simp [hj])

theorem run_eql_ints (t e : TypeId) (n : Nat) (k : IntKind) (ht : P.underlying t = some (.array n e)) (he : P.underlying e = some (.int k)) (hsz : ∀ w, (sizeOf e).run P w = .ok 1 w)
    (a b : Nat → Int) (w : World) :
    (binOp .eql t (.agg (arr n fun i => .int k (a i))) (.agg (arr n fun i => .int k (b i)))).run P w = .ok (.bool ((List.range n).all fun i => a i == b i)) w := by
  rw [run_eql_struct, run_equalIn_arr 9999 t e n ht hsz (fun w => by simp [isAgg, run_underlying he]) _ _ (fun i => a i == b i) (fun i _ w => run_equalIn_int w 9998 e k k _ _ he)]
  rfl
theorem run_neq_ints (t e : TypeId) (n : Nat) (k : IntKind) (ht : P.underlying t = some (.array n e)) (he : P.underlying e = some (.int k)) (hsz : ∀ w, (sizeOf e).run P w = .ok 1 w)
    (a b : Nat → Int) (w : World) :
    (binOp .neq t (.agg (arr n fun i => .int k (a i))) (.agg (arr n fun i => .int k (b i)))).run P w = .ok (.bool (!(List.range n).all fun i => a i == b i)) w := by
  rw [run_neq_struct, run_equalIn_arr 9999 t e n ht hsz (fun w => by simp [isAgg, run_underlying he]) _ _ (fun i => a i == b i) (fun i _ w => run_equalIn_int w 9998 e k k _ _ he)]
  rfl

theorem run_index_row (t e : TypeId) (n : Nat) (ht : P.underlying t = some (.array n e)) (hsz : ∀ w, (sizeOf e).run P w = .ok 1 w) (he : ∀ w, (isAgg e).run P w = .ok false w)
    (cs : Array Value) (k : IntKind) (j : Nat) (hj : j < n) (v : Value) (hc : cs[j]? = some v) (w : World) :
    (Instr.index t (.agg cs) (.int k (j : Int))).run P w = .ok v w := by
  have h1 : ¬ n ≤ j := by omega
  simp [Instr.index, asIntOf, Sem.run_bind, run_underlying ht, hsz, part, he, hc, h1]
end
end Go.Proofs.YtodimiffmmkndaaDoor
