/-
  The texts Bits, Core, Tac, Arr, Open, OpenA, OpenS, OpenF, Only, Ret, Make, Rbit, Obit, Rof, Rbits, Rnd, Boct, Oct, Bhex, Odig, R01b, R01c, Rsame, Info, Rowl, Rgn, Rowg, App1 of the proofs about scripts, as one file (they are merged by a program).
-/
import Derived.Test.YtdhdknjefjolpaaDoorChecked
import Derived.WalkKit
import Derived.WalkLawsBesides
import Derived.WalkSpells
import Derived.BigQuiet
import Derived.Deep.QuietTactic
import Derived.ProofKit
import Derived.OpenShut
import Derived.ShutString
import Derived.Below
import Derived.Deep.Slices
import Derived.Deep.Fields
import Derived.ChangeSame
import Derived.Deep.RegionLaw
import Derived.Deep.AppendLies
import Derived.OwnWalk
import Derived.Laws.OwnMore
import Derived.SizedLaws
import Derived.ChangeSlices
import Derived.Laws.Rows
import Derived.Laws.MakeOwn
import Derived.OrdersIn
import Derived.OrdersHeld
import Derived.Deep.RegionHeld3
import Derived.RangeFuncCalls
import Derived.TacticsIn
import Derived.Laws.IdiomStrings
import Derived.Deep.DeepCutAuto
import Derived.StillTailTactics
import Derived.Lib.LazyBuf
section
/-
  Plain facts on bits of bytes, as natural numbers. No program in sight.
-/
namespace Go.Proofs.YtdhdknjefjolpaaDoor.Pl
set_option linter.unusedSimpArgs false
set_option linter.unusedVariables false
set_option maxRecDepth 10000

/-- A byte of eight bits. -/
def ofB (f : Nat → Bool) : Nat := (f 0).toNat + 2 * (f 1).toNat + 4 * (f 2).toNat + 8 * (f 3).toNat + 16 * (f 4).toNat + 32 * (f 5).toNat + 64 * (f 6).toNat + 128 * (f 7).toNat

end Go.Proofs.YtdhdknjefjolpaaDoor.Pl
end
section
/-
  Small words that every text of this seat uses.
-/
namespace Go.Proofs.YtdhdknjefjolpaaDoor
set_option linter.unusedSimpArgs false
set_option linter.unusedVariables false
set_option maxRecDepth 10000
open Go.RowKit Pl

theorem hide {p : Prop} (h : p) : Hid p := h
theorem ret_bool {a b : Bool} (h : a = b) : Ending.returned (.bool a) = .returned (.bool b) := by rw [h]
theorem ret_int {k : IntKind} {a b : Int} (h : a = b) : Ending.returned (.int k a) = .returned (.int k b) := by rw [h]

theorem ret_pair' {k : IntKind} {a a' : Int} {x x' : Bool} (h : a = a') (hx : x = x') : Ending.returned (.tuple #[.int k a, .bool x]) = .returned (.tuple #[.int k a', .bool x']) := by rw [h, hx]
end Go.Proofs.YtdhdknjefjolpaaDoor
end
section
/-
  Small laws for a walk that goes from call to call.
-/
namespace Go.Proofs.YtdhdknjefjolpaaDoor
set_option linter.unusedSimpArgs false
set_option linter.unusedVariables false
set_option maxRecDepth 10000
open Go.RowKit

theorem Bl.chain {w v u : World} {m : Nat} (h : Below w.heap.size w v) (h2 : Below m v u) (hm : v.heap.size ≤ m) : Below w.heap.size w u := h.trans (h2.mono (Nat.le_trans h.size hm))
theorem Bl.alloc {w v : World} (h : Below w.heap.size w v) (o : Obj) : Below w.heap.size w (v.alloc o) := Below.alloc h h.size o
theorem Cl.p {P : Program} {f : FuncId} {a : Array Value} {w : World} {v : Ending} {Q : Ending → World → Prop} (h : Calls P f a w fun e w' => e = v ∧ w = w') (k : Q v w) : Calls P f a w Q :=
  h.mono fun _ _ h => by obtain ⟨rfl, rfl⟩ := h; exact k
theorem Cl.m {P : Program} {f : FuncId} {a : Array Value} {w : World} {v : Ending} {n : Nat} {Q : Ending → World → Prop} (h : Calls P f a w fun e w' => e = v ∧ Below n w w') (k : ∀ w', Below n w w' → Q v w') : Calls P f a w Q :=
  h.mono fun _ w' h => by obtain ⟨rfl, h2⟩ := h; exact k w' h2
/-- At a call in a region that only reads: the callee's contract says 'w = w''. -/
theorem quiet_left {P : Program} {f : FuncId} {args : Array Value} {w : World} {n : Nat} {v : Value}
    (h : Calls P f args (w.drewN n) fun e w' => e = .returned v ∧ w.drewN n = w') : Calls P f args (w.drewN n) fun e w'' => e = .returned v ∧ ∃ m, w'' = w.drewN m :=
  h.mono fun _ _ ⟨he, hm⟩ => ⟨he, n, hm.symm⟩
theorem quiet_add_left {P : Program} {f : FuncId} {args : Array Value} {w : World} {a n : Nat} {v : Value}
    (h : Calls P f args (w.drewN (a + n)) fun e w' => e = .returned v ∧ w.drewN (a + n) = w') :
    Calls P f args (w.drewN (a + n)) fun e w'' => e = .returned v ∧ ∃ m, w'' = w.drewN (a + m) :=
  h.mono fun _ _ ⟨he, hm⟩ => ⟨he, n, hm.symm⟩
end Go.Proofs.YtdhdknjefjolpaaDoor
end
section
/-
  Small facts on arrays in blocks of the call's own, and on blocks that are known whole.
-/
namespace Go.Proofs.YtdhdknjefjolpaaDoor
set_option linter.unusedSimpArgs false
set_option linter.unusedVariables false
set_option maxRecDepth 10000
open Go.RowKit Pl

/-- The cells of an array, by place. -/
def arr (n : Nat) (f : Nat → Value) : Array Value := ((List.range n).map f).toArray
def updv (f : Nat → Value) (j : Nat) (v : Value) : Nat → Value := fun i => if i = j then v else f i
theorem arr_size (n : Nat) (f : Nat → Value) : (arr n f).size = n := by simp [arr]
theorem arr_get (n : Nat) (f : Nat → Value) (j : Nat) (h : j < n) : (arr n f)[j]? = some (f j) := by simp [arr, h]
theorem arr_congr {n : Nat} {f g : Nat → Value} (h : ∀ i, i < n → f i = g i) : arr n f = arr n g := by
  unfold arr
  congr 1
  exact List.map_congr_left fun i hi => h i (by simpa using hi)
theorem arr_set (n : Nat) (f : Nat → Value) (j : Nat) (v : Value) (h : j < n) : (arr n f).setIfInBounds j v = arr n (updv f j v) := by
  apply Array.ext_getElem?
  intro i
  rw [Array.getElem?_setIfInBounds]
  by_cases hi : i < n
  · rw [arr_get n _ i hi, arr_get n _ i hi, arr_size]
    unfold updv
    by_cases e : j = i
    · subst e; simp [h]
    · rw [if_neg e, if_neg (fun x => e x.symm)]
  · have h1 : (arr n f)[i]? = none := Array.getElem?_eq_none (by rw [arr_size]; omega)
    have h2 : (arr n (updv f j v))[i]? = none := Array.getElem?_eq_none (by rw [arr_size]; omega)
    rw [h1, h2, if_neg (by omega)]

/-- Block g is just these cells, none frozen. -/
def Blk (w : World) (g : Nat) (t : TypeId) (cs : Array Value) : Prop := w.heap[g]? = some (.cells cs t (0, 0))
section
variable {w w' : World} {g : Nat} {t : TypeId} {cs : Array Value}
theorem Blk.lt (h : Blk w g t cs) : g < w.heap.size := by
  rcases Nat.lt_or_ge g w.heap.size with hlt | hge
  · exact hlt
  · unfold Blk at h; rw [Array.getElem?_eq_none hge] at h; cases h
theorem Blk.cell (h : Blk w g t cs) (i : Nat) : w.cell? ⟨g, i, none⟩ = cs[i]? := cell_of_row w g i cs t (0, 0) h
theorem Blk.frozen (h : Blk w g t cs) (i : Nat) : w.frozen? ⟨g, i, none⟩ = false := by
  unfold Blk at h
  simp [World.frozen?, h]
theorem Blk.new (w : World) (t : TypeId) (cs : Array Value) : Blk (w.alloc (.cells cs t)) w.heap.size t cs := heap_alloc_new w _
theorem Blk.drew (h : Blk w g t cs) : Blk w.drew g t cs := h
theorem Blk.alloc (h : Blk w g t cs) (o : Obj) : Blk (w.alloc o) g t cs := (Below.heap_alloc w o g h.lt).trans h
theorem Blk.set_ (h : Blk w g t cs) (i : Nat) (u : Value) : Blk (w.setCell ⟨g, i, none⟩ u) g t (cs.setIfInBounds i u) := by
  unfold Blk at h ⊢
  simp [World.setCell, Array.getElem?_modify, h]
theorem Blk.far (h : Blk w g t cs) {p : Addr} (hp : g ≠ p.block) (u : Value) : Blk (w.setCell p u) g t cs := (Below.heap_setCell w p u g hp).trans h
theorem setRow_block (w : World) (g : Nat) (cs : Array Value) (k : Nat) (h : k ≠ g) : (w.setRow g cs).heap[k]? = w.heap[k]? := by
  simp only [World.setRow, Array.getElem?_modify]
  rw [if_neg (fun e => h e.symm)]
theorem setRow_size (w : World) (g : Nat) (cs : Array Value) : (w.setRow g cs).heap.size = w.heap.size := by simp [World.setRow]
theorem Blk.setRow (h : Blk w g t cs) (cs' : Array Value) : Blk (w.setRow g cs') g t cs' := setRow_heap w g cs cs' t (0, 0) h
theorem Blk.setRow_far (h : Blk w g t cs) {g' : Nat} (hne : g ≠ g') (cs' : Array Value) : Blk (w.setRow g' cs') g t cs := (setRow_block w g' cs' g hne).trans h
theorem below_setRow {B : Nat} {a w : World} (h : Below B a w) {g : Nat} (hg : B ≤ g) (cs : Array Value) : Below B a (w.setRow g cs) :=
  h.trans ⟨rfl, rfl, rfl, by rw [setRow_size]; exact Nat.le_refl _, fun k hk => setRow_block _ _ _ _ (by omega)⟩
theorem setRow_new (w : World) (c c' : Array Value) (t : TypeId) : (w.alloc (.cells c t)).setRow w.heap.size c' = w.alloc (.cells c' t) := by
  simp only [World.setRow, World.alloc]
  congr 1
  apply Array.ext_getElem?
  intro i
  rw [Array.getElem?_modify]
  by_cases h : w.heap.size = i
  · subst h
    simp
  · have h' : ¬ i = w.heap.size := fun e => h e.symm
    simp [h, h', Array.getElem?_push]
theorem Blk.below {B : Nat} (h : Blk w g t cs) (hb : Below B w w') (hg : g < B) : Blk w' g t cs := (hb.block g hg).trans h
theorem Blk.grown {row : Option Nat} (h : Blk w g t cs) (hb : w.grownBy w' row) (hg : some g ≠ row) : Blk w' g t cs := (hb.block g h.lt hg).trans h
end

section
variable {P : Program}
end
end Go.Proofs.YtdhdknjefjolpaaDoor
end
section
/-
  Arguments opened to plain facts: numbers, bools, strings, slices of numbers.
-/
namespace Go.Proofs.YtdhdknjefjolpaaDoor
set_option linter.unusedSimpArgs false
set_option linter.unusedVariables false
set_option maxRecDepth 10000
open Go.ChangeShapes Go.WideShapes Go.ChangeAt Go.RowKit
open Go.ChangeMaps (open_string)

section
variable {H : Type} {enc : TypeId × Value → H} {P : Program} {w : World} {base : Nat} {spare : Nat → Bool} {held : Bool} {r : Reach} {b0 : Nat} {t : TypeId} {v : Value} {d : DataW H} {ps : List MemPlace}

theorem open_i64 (ht : P.underlying t = some (.int .i64)) (hv : Value.okWide P w r b0 t v) (hd : DataW.Trod enc P w base spare held t v d ps) :
    ∃ x : Int, v = .int .i64 x ∧ -9223372036854775808 ≤ x ∧ x ≤ 9223372036854775807 := by
  obtain ⟨n, rfl, _, _, hw⟩ := open_int ht hv hd
  exact ⟨n, rfl, bounds_i64 hw⟩
theorem open_str (ht : P.underlying t = some .string) (hv : Value.okWide P w r b0 t v) (hd : DataW.Trod enc P w base spare held t v d ps) :
    ∃ s : ByteArray, v = .string s ∧ s.size ≤ maxLen := by
  obtain ⟨n, rfl, _, _, h⟩ := open_string ht hv hd
  exact ⟨n, rfl, h⟩

/-- A slice that reads, element by element, as the numbers g 0, g 1, .. -/
def NumsAt (w : World) (k : IntKind) (a : Option Addr) (len : Nat) (g : Nat → Int) : Prop :=
  ∀ i, i < len → ∃ b off, a = some ⟨b, off, none⟩ ∧ b < w.heap.size ∧ w.cell? ⟨b, off + i, none⟩ = some (.int k (g i))

theorem cell_lt {w : World} {p : Addr} {v : Value} (h : w.cell? p = some v) : p.block < w.heap.size := by
  rcases Nat.lt_or_ge p.block w.heap.size with hlt | hge
  · exact hlt
  · unfold World.cell? at h
    rw [Array.getElem?_eq_none hge] at h
    simp at h

theorem add_plain (b off i : Nat) : (⟨b, off, none⟩ : Addr).add i = ⟨b, off + i, none⟩ := by
  unfold Addr.add
  split
  · rename_i h
    simp_all
  · rfl

theorem NumsAt.below {w w' : World} {k : IntKind} {a : Option Addr} {len : Nat} {g : Nat → Int} {B : Nat} (h : NumsAt w k a len g) (hb : Below B w w') (hB : w.heap.size ≤ B) : NumsAt w' k a len g := by
  intro i hi
  obtain ⟨b, off, ha, hlt, hc⟩ := h i hi
  exact ⟨b, off, ha, Nat.lt_of_lt_of_le hlt hb.size, (hb.cell (p := ⟨b, off + i, none⟩) (by simp; omega)).trans hc⟩

/-- What the call owns, as numbers. -/
theorem nums_of_own {w : World} {base n : Nat} {e : TypeId} {k : IntKind} {v : Value} {zs : List Int} (h : w.ownsRow base e 1 v n (zs.map (Value.int k))) :
    ∃ a c, v = .slice a n c ∧ NumsAt w k a n (fun i => zs.getD i 0) := by
  obtain ⟨hl, hv | ⟨g, cap, cur, rfl, hb, hh, hn, hcap, hsz, htake⟩⟩ := h
  · obtain ⟨rfl, rfl⟩ := hv
    exact ⟨none, 0, rfl, fun i hi => by omega⟩
  · refine ⟨_, _, rfl, fun i hi => ⟨g, 0, rfl, ?_, ?_⟩⟩
    · rcases Nat.lt_or_ge g w.heap.size with hlt | hge
      · exact hlt
      · rw [Array.getElem?_eq_none hge] at hh; cases hh
    · rw [Nat.zero_add, cell_of_row w g i cur e (0, 0) hh]
      have hl' : zs.length = n := by simpa using hl
      have h1 : (cur.toList.take (n * 1))[i]? = (zs.map (Value.int k))[i]? := by rw [htake]
      rw [List.getElem?_take_of_lt (by omega)] at h1
      rw [← Array.getElem?_toList, h1]
      simp [List.getD, hl', hi]
end

/-- A cell in a block that an append leaves alone. -/
theorem grown_cell {w w' : World} {row : Option Nat} (hg : w.grownBy w' row) {p : Addr} {v : Value} (h : w.cell? p = some v) (hne : some p.block ≠ row) : w'.cell? p = some v :=
  (World.cell?_of_block (hg.block p.block (cell_lt h) hne)).trans h
theorem grown_frozen {w w' : World} {row : Option Nat} (hg : w.grownBy w' row) {p : Addr} (hlt : p.block < w.heap.size) (h : w.frozen? p = false) (hne : some p.block ≠ row) : w'.frozen? p = false :=
  (World.frozen?_of_block (hg.block p.block hlt hne)).trans h
end Go.Proofs.YtdhdknjefjolpaaDoor
end
section
/-
  An array of numbers by value, opened.
-/
namespace Go.Proofs.YtdhdknjefjolpaaDoor
set_option linter.unusedSimpArgs false
set_option linter.unusedVariables false
set_option maxRecDepth 10000
open Go.RowKit
section
open Go.ChangeShapes Go.WideShapes Go.ChangeAt
variable {H : Type} {enc : TypeId × Value → H} {P : Program} {w : World} {base : Nat} {spare : Nat → Bool} {held : Bool} {r : Reach} {b0 : Nat} {t e : TypeId} {v : Value} {d : DataW H} {ps : List MemPlace}
end
end Go.Proofs.YtdhdknjefjolpaaDoor
end
section
/-
  Slices of structs opened to cells (after the guide's own page on structs, whose block this is).
-/
namespace Go.Proofs.YtdhdknjefjolpaaDoor
set_option linter.unusedSimpArgs false
set_option linter.unusedVariables false
set_option maxRecDepth 10000
open Go.ChangeShapes Go.WideShapes Go.Deep Go.RowKit

section
variable {H : Type} {enc : TypeId × Value → H} {P : Program} {w : World} {base : Nat} {spare : Nat → Bool} {held : Bool}
theorem open_slice_fields {t e : TypeId} {fs : Array Field} {fuel : Nat} {cs : List Value} {x : DataW H × List MemPlace} (ht : P.underlying t = some (.slice e)) (he : P.underlying e = some (.struct fs))
    (hone : oneCellFields P fs = true) (hC : P.cellsOf e = fs.size) (h : DataW.trod enc P w base spare held fuel t cs = some x) :
    (cs = [.slice none 0 0] ∧ x = (.nil, [])) ∨
    ∃ (a : Addr) (len cap m : Nat) (D : Nat → DataW H) (Pl : Nat → List MemPlace), cs = [.slice (some a) len cap] ∧ base ≤ a.block ∧ len ≤ cap ∧ cap ≤ maxLen ∧ m = (if spare a.block then cap else len) ∧
      x = (.slice ((List.range len).map D) ((List.range (m - len)).map fun j => D (len + j)), MemPlace.row a (m * fs.size) ++ (List.range m).flatMap Pl) ∧
      ∀ i, i < m → ∃ (ys : List (DataW H × List MemPlace)) (n : Nat), D i = .agg (ys.map (·.1)) ∧ Pl i = ys.flatMap (·.2) ∧ ys.length = fs.size ∧
        ∀ (j : Nat) (f : Field), fs[j]? = some f → ∃ (v : Value) (y : DataW H × List MemPlace), w.cell? (a.add (i * fs.size + j)) = some v ∧ ys[j]? = some y ∧ DataW.trod enc P w base spare held n f.type [v] = some y := by
  rcases open_slice ht h with h0 | ⟨a, len, cap, m, n, D, Pl, hcs, hb, hl, hm, hmm, hx, hi⟩
  · exact .inl h0
  · refine .inr ⟨a, len, cap, m, D, Pl, hcs, hb, hl, hm, hmm, by rw [hC] at hx; exact hx, fun i him => ?_⟩
    obtain ⟨cs', hc, ht'⟩ := hi i him
    rw [hC] at hc
    obtain ⟨ys, n', hn', hy, hlen, hyl, hf⟩ := DataW.trod_struct he ht'
    obtain ⟨_, hcl, hat⟩ := World.cells?_some hc
    simp only [Prod.mk.injEq] at hy
    refine ⟨ys, n', hy.1, hy.2, hyl, fun j f hj => ?_⟩
    obtain ⟨ho, hk⟩ := hone_of hone j f hj
    have hjl : j < fs.size := (Array.getElem?_eq_some_iff.1 hj).1
    have hcell := hat j hjl
    have hv : cs'[j]? = some (cs'[j]'(by omega)) := List.getElem?_eq_getElem (by omega)
    have h1 := hf j f hj
    rw [ho, hk] at h1
    have hone' : (cs'.drop j).take 1 = [cs'[j]'(by omega)] := by
      rw [List.drop_eq_getElem_cons (by omega)]
      rfl
    rw [hone'] at h1
    have hys : ys[j]? = some (ys[j]'(by omega)) := List.getElem?_eq_getElem (by omega)
    refine ⟨_, _, ?_, hys, h1.trans hys⟩
    rw [← Go.Deep.add_add, hcell, hv]
end

section
variable {H : Type} {enc : TypeId × Value → H} {P : Program} {w : World} {base : Nat} {spare : Nat → Bool} {held : Bool} {r : Reach} {b0 : Nat} {t : TypeId} {v : Value} {d : DataW H} {ps : List MemPlace}

/-- A field that is a byte. -/
theorem field_u8 {n : Nat} {v : Value} {y : DataW H × List MemPlace} (ht : P.underlying t = some (.int .u8)) (h : DataW.trod enc P w base spare held n t [v] = some y) :
    ∃ x : Nat, v = .int .u8 (x : Int) ∧ x < 256 := by
  obtain ⟨m, hm, _, hw⟩ := DataW.trod_int ht h
  simp at hm
  subst hm
  have := bounds_u8 hw
  exact ⟨m.toNat, by rw [Int.toNat_of_nonneg (by omega)], by omega⟩
theorem field_i64 {n : Nat} {v : Value} {y : DataW H × List MemPlace} (ht : P.underlying t = some (.int .i64)) (h : DataW.trod enc P w base spare held n t [v] = some y) :
    ∃ x : Int, v = .int .i64 x ∧ -9223372036854775808 ≤ x ∧ x ≤ 9223372036854775807 := by
  obtain ⟨m, hm, _, hw⟩ := DataW.trod_int ht h
  simp at hm
  subst hm
  exact ⟨m, rfl, bounds_i64 hw⟩
theorem field_bool {n : Nat} {v : Value} {y : DataW H × List MemPlace} (ht : P.underlying t = some .bool) (h : DataW.trod enc P w base spare held n t [v] = some y) :
    ∃ x : Bool, v = .bool x := by
  obtain ⟨m, hm, _⟩ := DataW.trod_bool ht h
  simp at hm
  exact ⟨m, hm⟩
end

/-- A cell's number. -/
def cellNat : Value → Nat
  | .int _ n => n.toNat
  | _ => 0
@[simp] theorem cellNat_int (k : IntKind) (n : Nat) : cellNat (.int k (n : Int)) = n := by simp [cellNat]
def cellInt : Value → Int
  | .int _ n => n
  | _ => 0
end Go.Proofs.YtdhdknjefjolpaaDoor
end
section
/-
  A struct by value, its fields one cell each, opened to cells.
-/
namespace Go.Proofs.YtdhdknjefjolpaaDoor
set_option linter.unusedSimpArgs false
set_option linter.unusedVariables false
set_option maxRecDepth 10000
open Go.ChangeShapes Go.WideShapes Go.Deep Go.RowKit

section
variable {H : Type} {enc : TypeId × Value → H} {P : Program} {w : World} {base : Nat} {spare : Nat → Bool} {held : Bool} {r : Reach} {b0 : Nat} {t : TypeId} {v : Value} {d : DataW H} {ps : List MemPlace}
end
end Go.Proofs.YtdhdknjefjolpaaDoor
end
section
/-
  Worlds that differ in some blocks alone; slices of numbers in lower blocks.
-/
namespace Go.Proofs.YtdhdknjefjolpaaDoor
set_option linter.unusedSimpArgs false
set_option linter.unusedVariables false
set_option maxRecDepth 10000
open Go.RowKit

/-- All blocks but those of S stay as they are. -/
structure Only (S : Nat → Prop) (w w' : World) : Prop where
  os : w'.os = w.os
  tape : w'.tape = w.tape
  output : w'.output = w.output
  size : w.heap.size ≤ w'.heap.size
  block : ∀ k, k < w.heap.size → ¬ S k → w'.heap[k]? = w.heap[k]?
theorem Only.refl (S : Nat → Prop) (w : World) : Only S w w := ⟨rfl, rfl, rfl, Nat.le_refl _, fun _ _ _ => rfl⟩
theorem Only.trans {S : Nat → Prop} {a b c : World} (h : Only S a b) (k : Only S b c) : Only S a c :=
  ⟨k.os.trans h.os, k.tape.trans h.tape, k.output.trans h.output, Nat.le_trans h.size k.size, fun i hi hs => (k.block i (Nat.lt_of_lt_of_le hi h.size) hs).trans (h.block i hi hs)⟩
theorem Only.mono {S S' : Nat → Prop} {a b : World} (h : Only S a b) (hs : ∀ k, k < a.heap.size → S k → S' k) : Only S' a b := ⟨h.os, h.tape, h.output, h.size, fun k hk hn => h.block k hk fun e => hn (hs k hk e)⟩
theorem Only.of {S : Nat → Prop} {a b : World} (h : Below a.heap.size a b) : Only S a b := ⟨h.os, h.tape, h.output, h.size, fun k hk _ => h.block k hk⟩
theorem Only.below {S : Nat → Prop} {a b : World} {B : Nat} (h : Only S a b) (hB : B ≤ a.heap.size) (hs : ∀ k, S k → B ≤ k) : Below B a b :=
  ⟨h.os, h.tape, h.output, h.size, fun k hk => h.block k (by omega) fun e => by have := hs k e; omega⟩
theorem Only.setCell {S : Nat → Prop} {a b : World} (h : Only S a b) (p : Addr) (hp : S p.block) (u : Value) : Only S a (b.setCell p u) :=
  h.trans ⟨rfl, rfl, rfl, by simp [World.setCell], fun k _ hn => Below.heap_setCell _ _ _ _ (fun e => hn (e ▸ hp))⟩
theorem Only.drew {S : Nat → Prop} {a b : World} (h : Only S a b) : Only S a b.drew := ⟨h.os, h.tape, h.output, h.size, h.block⟩
theorem Only.alloc {S : Nat → Prop} {a b : World} (h : Only S a b) (o : Obj) : Only S a (b.alloc o) := h.trans (Only.of ((Below.refl _ _).alloc (Nat.le_refl _) o))
theorem Blk.only {S : Nat → Prop} {w w' : World} {g : Nat} {t : TypeId} {cs : Array Value} (h : Blk w g t cs) (ho : Only S w w') (hg : ¬ S g) : Blk w' g t cs := (ho.block g h.lt hg).trans h
theorem Blk.newAt {w : World} {t : TypeId} {cs : Array Value} {g : Nat} (h : g = w.heap.size) : Blk (w.alloc (.cells cs t)) g t cs := by
  subst h
  exact Blk.new _ _ _
/-- A slice of numbers that lies in a block below B. -/
def NumsB (w : World) (k : IntKind) (a : Option Addr) (len : Nat) (g : Nat → Int) (B : Nat) : Prop :=
  ∀ i, i < len → ∃ b off, a = some ⟨b, off, none⟩ ∧ b < B ∧ w.cell? ⟨b, off + i, none⟩ = some (.int k (g i))
theorem NumsB.nums {w : World} {k : IntKind} {a : Option Addr} {len : Nat} {g : Nat → Int} {B : Nat} (h : NumsB w k a len g B) : NumsAt w k a len g := fun i hi => by
  obtain ⟨b, off, ha, _, hc⟩ := h i hi
  exact ⟨b, off, ha, cell_lt hc, hc⟩
theorem NumsB.only {S : Nat → Prop} {w w' : World} {k : IntKind} {a : Option Addr} {len : Nat} {g : Nat → Int} {B : Nat} (h : NumsB w k a len g B) (ho : Only S w w') (hs : ∀ j, j < B → ¬ S j) : NumsB w' k a len g B := fun i hi => by
  obtain ⟨b, off, ha, hlt, hc⟩ := h i hi
  exact ⟨b, off, ha, hlt, (World.cell?_of_block (ho.block b (cell_lt hc) (hs b hlt))).trans hc⟩
theorem NumsB.cell {w : World} {k : IntKind} {a : Option Addr} {len : Nat} {g : Nat → Int} {B : Nat} (h : NumsB w k a len g B) (i : Nat) (hi : i < len) : ∃ b off, a = some ⟨b, off, none⟩ ∧ b < B ∧ w.cell? ⟨b, off + i, none⟩ = some (.int k (g i)) := h i hi

section
open Go.ChangeShapes Go.WideShapes Go.ChangeAt
variable {H : Type} {enc : TypeId × Value → H} {P : Program} {w : World} {base : Nat} {spare : Nat → Bool} {held : Bool}
end
end Go.Proofs.YtdhdknjefjolpaaDoor
end
section
/-
  Results of which one lies in a cell.
-/
namespace Go.Proofs.YtdhdknjefjolpaaDoor
set_option linter.unusedSimpArgs false
set_option linter.unusedVariables false
set_option maxRecDepth 10000
open Go.RowKit

section
variable {P : Program} {fn : Func} {s u v p : Tmp} {ty : TypeId} {tmps : Array Value} {w : World} {g : Nat} {t : TypeId} {cs : Array Value} {fr : Nat × Nat} {d : TypeDesc}
theorem results_tc (h : fn.results = #[.tmp u, .cell p ty]) (hp : tmps.getD p undef = .pointer (some ⟨g, 0, none⟩)) (hg : w.heap[g]? = some (.cells cs t fr))
    (hu : P.underlying ty = some d) (hd : (match d with | .struct _ | .array _ _ => true | _ => false) = true) (hi : (P.info? ty).map (·.size) = some cs.size) :
    (results fn tmps).run P w = .ok (.tuple #[tmps.getD u undef, .agg cs]) w := by
  have hp' : tmps[p]?.getD undef = .pointer (some ⟨g, 0, none⟩) := by simpa using hp
  simp [results, h, hp', asAddr, run_loadVar_row w g t ty cs fr d hg hu hd hi]
end
end Go.Proofs.YtdhdknjefjolpaaDoor
end
section
/-
  make of a slice whose elements are one cell each, as an array by place.
-/
namespace Go.Proofs.YtdhdknjefjolpaaDoor
set_option linter.unusedSimpArgs false
set_option linter.unusedVariables false
set_option maxRecDepth 10000
open Go.RowKit Pl

section
variable {P : Program}
theorem made_arr (z : Value) (n : Nat) : madeCells #[z] n = arr n (fun _ => z) := by
  apply Array.ext_getElem?
  intro i
  by_cases h : i < n
  · rw [arr_get n _ i h]
    simp [madeCells, h, Nat.mod_one]
  · rw [Array.getElem?_eq_none (by rw [size_madeCells]; omega), Array.getElem?_eq_none (by rw [arr_size]; omega)]

theorem run_make_arr (t e : TypeId) (i : TypeInfo) (z : Value) (bytes : Nat) (ht : P.underlying t = some (.slice e)) (hi : P.info? e = some i) (hz : i.zero = some z) (hs : i.size = 1) (hb : i.bytes = bytes) (hc : z.cells = #[z])
    (kl kc : IntKind) (c : Nat) (hbytes : bytes * c ≤ 281474976710656) (h63 : c ≤ 9223372036854775807) (w : World) :
    (Instr.makeSlice t (.int kl (c : Int)) (.int kc (c : Int))).run P w = .ok (.slice (some ⟨w.heap.size, 0, none⟩) c c) (w.alloc (.cells (arr c (fun _ => z)) e)) := by
  subst hb
  have hb' : (i.bytes : Int) * (c : Int) ≤ 281474976710656 := by
    have h : ((i.bytes * c : Nat) : Int) ≤ 281474976710656 := by omega
    rwa [Int.natCast_mul] at h
  have h := run_make (P := P) w t e i z ht hi hz kl kc c c (by omega) (by omega) hb' (by omega)
  rw [h]
  simp only [Int.toNat_natCast, hs, Nat.mul_one, hc, made_arr]
end
end Go.Proofs.YtdhdknjefjolpaaDoor
end
section
/-
  gannetref01.Bit.
-/
namespace Go.Proofs.YtdhdknjefjolpaaDoor
set_option linter.unusedSimpArgs false
set_option linter.unusedVariables false
set_option maxRecDepth 10000
open Go.RowKit Pl

end Go.Proofs.YtdhdknjefjolpaaDoor
end
section
/-
  octet.mask, octet.Bit.
-/
namespace Go.Proofs.YtdhdknjefjolpaaDoor
set_option linter.unusedSimpArgs false
set_option linter.unusedVariables false
set_option maxRecDepth 10000
open Go.RowKit Pl


end Go.Proofs.YtdhdknjefjolpaaDoor
end
section
/-
  gannetref01.Power, gannetref01.Of.
-/
namespace Go.Proofs.YtdhdknjefjolpaaDoor
set_option linter.unusedSimpArgs false
set_option linter.unusedVariables false
set_option maxRecDepth 10000
open Go.RowKit Pl

end Go.Proofs.YtdhdknjefjolpaaDoor
end
section
/-
  gannetref01: Bits, With.
-/
namespace Go.Proofs.YtdhdknjefjolpaaDoor
set_option linter.unusedSimpArgs false
set_option linter.unusedVariables false
set_option maxRecDepth 10000
open Go.RowKit Pl

end Go.Proofs.YtdhdknjefjolpaaDoor
end
section
/-
  A region that draws its order, in a round of a range over a function: out of the plain world's laws.
-/
namespace Go.Proofs.YtdhdknjefjolpaaDoor
set_option linter.unusedSimpArgs false
set_option linter.unusedVariables false
set_option maxRecDepth 10000
open Go.RowKit

section
variable {P : Program} {ops : Array Oper} {Q : Exit → Act → World → Prop} {md : Region.Mode} {n lp : Nat}
/-- K behind the region, and no other way out. -/
def OnlyNormal (K : Act → World → Prop) : Exit → Act → World → Prop
  | .normal, a, w => K a w
  | _, _, _ => False
theorem OnlyNormal.lets (K : Act → World → Prop) : ¬ LetsOut (OnlyNormal K) := fun ⟨_, _, h⟩ => h
theorem uponIn_of_upon {o : Oper} {a : Act} {K : Act → World → Prop} {r : Result Next} (h : o.upon P a K Q r) : o.uponIn (Fence.wide.inRound lp) n P a K Q r := by
  cases r with
  | ok x w' =>
    cases x with
    | value v => exact h
    | skip => exact h
    | defer d => exact h
    | enter f args =>
      refine ⟨fun hd => absurd hd Bool.false_ne_true, CallsIn.inRound lp (callsIn_wide.2 ?_)⟩
      exact Calls.mono h (fun e w'' he => by cases e <;> exact he)
    | row row args =>
      refine ⟨fun hd => absurd hd Bool.false_ne_true, fun c cs _ => ?_⟩
      obtain ⟨v, w'', r, s⟩ := (show Rows P row args w' fun v w'' => K (a.put o.dst v) w'' from h) c cs
      exact ⟨v, w'', r, stepsIn_wide.2 s⟩
    | round => exact h.elim
    | _ => exact h.elim
  | halt x w' => cases x <;> first | exact h | exact h.elim
theorem opIn_of_op (hnd : ∀ (i : Nat) (o : Oper), ops[i]? = some o → ∀ c, o.op ≠ .defer c) (hl : ¬ LetsOut Q) {i : Nat} {K : Act → World → Prop} {a : Act} {w : World} (h : wpOp P ops Q i K a w) : wpOpIn (Fence.wide.inRound lp) n P ops Q i K a w := by
  unfold wpOp at h
  unfold wpOpIn
  cases ho : ops[i]? with
  | none => simpa [ho] using h
  | some o =>
    simp only [ho] at h ⊢
    by_cases hw : Region.wanted o (yielded ops a.tmps) = true
    · simp only [hw, if_true] at h ⊢
      rcases h with h | h
      · refine ⟨fun _ _ => trivial, ?_⟩
        rw [Fence.inRound_round, Oper.semAt_some lp _ o (hnd i o ho)]
        exact uponIn_of_upon h
      · exact absurd h.2 hl
    · simp only [hw] at h ⊢
      exact ⟨fun _ _ => trivial, h⟩
theorem anyIn_of_any (hnd : ∀ (i : Nat) (o : Oper), ops[i]? = some o → ∀ c, o.op ≠ .defer c) (hl : ¬ LetsOut Q) : ∀ (fuel : Nat) (listed : Array Bool) (a : Act) (w : World), wpAny P md ops Q fuel listed a w → wpAnyIn (Fence.wide.inRound lp) n P md ops Q fuel listed a w
  | 0, _, _, _, h => h
  | fuel + 1, _, _, _, h => ⟨h.1, fun i hi => wpOpIn_mono (fun a' w' => anyIn_of_any hnd hl fuel _ a' w') (opIn_of_op hnd hl (h.2 i hi))⟩
/-- A region in a round: from the plain world's 'wpAnyH' on (take by take: 'wpAnyH_take', 'wpAnyH_ready'). -/
theorem wpIn_region_round {S : World → Prop} {id : Nat} {a : Act} {w : World} (K : Act → World → Prop) (hm : P.follows .mixedOrders = true) (hnd : ∀ (i : Nat) (o : Oper), ops[i]? = some o → ∀ c, o.op ≠ .defer c)
    (hS : S w.drew) (h : S w.drew → wpAnyH P .any ops (OnlyNormal K) S ops.size (Array.replicate ops.size false) a w.drew) (hK : ∀ a w, K a w → Q .normal a w) : (Code.region id ops true).wpIn (Fence.wide.inRound lp) n P Q a w :=
  wpIn_mono (wpIn_region_any hm (anyIn_of_any hnd (OnlyNormal.lets K) _ _ _ _ (wpAny_of_held _ _ _ _ (h hS)))) fun e a w he => by
    cases e with
    | normal => exact hK a w he
    | _ => exact he.elim
/-- No operation of these defers (by the kernel). -/
def noDefer (ops : Array Oper) : Bool := ops.toList.all fun o => match o.op with | .defer _ => false | _ => true
theorem noDefer_spec (h : noDefer ops = true) : ∀ (i : Nat) (o : Oper), ops[i]? = some o → ∀ c, o.op ≠ .defer c := fun i o ho c e => by
  unfold noDefer at h
  rw [List.all_eq_true] at h
  have := h o (by rw [← Array.getElem?_toList] at ho; exact List.mem_of_getElem? ho)
  rw [e] at this
  cases this
end
end Go.Proofs.YtdhdknjefjolpaaDoor
end
section
/-
  Plain facts on turns, counts and digits of bytes.
-/
namespace Go.Proofs.YtdhdknjefjolpaaDoor.Pl
set_option linter.unusedSimpArgs false
set_option linter.unusedVariables false
set_option maxRecDepth 10000

end Go.Proofs.YtdhdknjefjolpaaDoor.Pl
end
section
/-
  Package octet: With, Lo, Hi, Word, Signed, Left, Right.
-/
namespace Go.Proofs.YtdhdknjefjolpaaDoor
set_option linter.unusedSimpArgs false
set_option linter.unusedVariables false
set_option maxRecDepth 10000
open Go.RowKit Pl










end Go.Proofs.YtdhdknjefjolpaaDoor
end
section
/-
  Plain facts on digits of sixteen.
-/
namespace Go.Proofs.YtdhdknjefjolpaaDoor.Pl
set_option linter.unusedSimpArgs false
set_option linter.unusedVariables false
set_option maxRecDepth 10000

def hexC (d : Nat) : UInt8 := [48, 49, 50, 51, 52, 53, 54, 55, 56, 57, 65, 66, 67, 68, 69, 70].getD d 0
/-- So many digits, the highest one first. -/
def hexT (n : Nat) : Nat → List UInt8
  | 0 => []
  | k + 1 => hexC (n / 16 ^ k % 16) :: hexT n k
theorem hexT_len (n k : Nat) : (hexT n k).length = k := by
  induction k with
  | zero => rfl
  | succ k ih => simp [hexT, ih]
theorem hexT_get (n k j : Nat) (hj : j < k) : (hexT n k)[k - 1 - j]? = some (hexC (n / 16 ^ j % 16)) := by
  induction k with
  | zero => omega
  | succ k ih =>
    rw [hexT]
    by_cases e : j = k
    · subst e
      rw [show j + 1 - 1 - j = 0 from by omega]
      rfl
    · have h := ih (by omega)
      rw [show k + 1 - 1 - j = (k - 1 - j) + 1 from by omega]
      simpa using h
/-- A digit's value. -/
def hv (c : UInt8) : Option Nat := if 48 ≤ c.toNat ∧ c.toNat ≤ 57 then some (c.toNat - 48) else if 65 ≤ c.toNat ∧ c.toNat ≤ 70 then some (c.toNat - 55) else none
theorem hv_lt {c : UInt8} {d : Nat} (h : hv c = some d) : d < 16 := by
  unfold hv at h
  split at h
  · injection h with h; omega
  · split at h
    · injection h with h; omega
    · cases h
theorem hv_hexC_all : ∀ d, d < 16 → hv (hexC d) = some d := by decide
theorem hv_hexC (d : Nat) (h : d < 16) : hv (hexC d) = some d := hv_hexC_all d h
theorem hexC_toNat : ∀ d, d < 16 → (hexC d).toNat = if d < 10 then 48 + d else 55 + d := by decide
theorem hexC_hv {c : UInt8} {d : Nat} (h : hv c = some d) : hexC d = c := by
  have hd := hv_lt h
  have hc : c.toNat = if d < 10 then 48 + d else 55 + d := by
    unfold hv at h
    split at h
    · injection h with h; rw [if_pos (by omega)]; omega
    · split at h
      · injection h with h; rw [if_neg (by omega)]; omega
      · cases h
  apply UInt8.toNat_inj.1
  rw [hc, hexC_toNat d hd]
/-- Digits read on. -/
def hfold : List UInt8 → Nat → Option Nat
  | [], acc => some acc
  | c :: r, acc => match hv c with
    | none => none
    | some d => hfold r (acc * 16 + d)
/-- What a text is as a number, and the error. -/
def fh (s : List UInt8) : Nat × Nat :=
  if s = [] then (0, 4) else if 8 < s.length then (0, 2) else match hfold s 0 with
    | some n => (n, 0)
    | none => (0, 3)
theorem hfold_hexT (n k acc : Nat) : hfold (hexT n k) acc = some (acc * 16 ^ k + n % 16 ^ k) := by
  induction k generalizing acc with
  | zero => simp [hexT, hfold, Nat.mod_one]
  | succ k ih =>
    rw [hexT, hfold, hv_hexC _ (Nat.mod_lt _ (by omega))]
    show hfold (hexT n k) (acc * 16 + n / 16 ^ k % 16) = _
    rw [ih, Nat.mod_pow_succ, Nat.pow_succ, Nat.add_mul]
    congr 1
    rw [Nat.mul_assoc, Nat.mul_comm 16, Nat.mul_comm (n / 16 ^ k % 16)]
    omega
theorem fh_hexT (n k : Nat) (hk : 0 < k) (hk8 : k ≤ 8) (hn : n < 16 ^ k) : fh (hexT n k) = (n, 0) := by
  unfold fh
  have hl := hexT_len n k
  rw [if_neg (by intro e; rw [e] at hl; simp at hl; omega), if_neg (by omega), hfold_hexT, Nat.mod_eq_of_lt hn]
  simp
theorem hfold_lt (s : List UInt8) (acc n : Nat) (h : hfold s acc = some n) : n < (acc + 1) * 16 ^ s.length := by
  induction s generalizing acc with
  | nil => simp [hfold] at h; simp; omega
  | cons c r ih =>
    rw [hfold] at h
    cases hc : hv c with
    | none => rw [hc] at h; cases h
    | some d =>
      rw [hc] at h
      have hd := hv_lt hc
      have := ih _ h
      rw [List.length_cons, Nat.pow_succ]
      have h2 : (acc * 16 + d + 1) * 16 ^ r.length ≤ ((acc + 1) * 16) * 16 ^ r.length := Nat.mul_le_mul_right _ (by omega)
      have h3 : (acc + 1) * 16 * 16 ^ r.length = (acc + 1) * (16 ^ r.length * 16) := by rw [Nat.mul_assoc, Nat.mul_comm 16]
      omega
/-- The first k digits read; k more to come. -/
theorem hfold_take (s : List UInt8) (acc k : Nat) (c : UInt8) (hc : s[k]? = some c) (n : Nat) (h : hfold (s.take k) acc = some n) :
    hfold (s.take (k + 1)) acc = (hv c).map fun d => n * 16 + d := by
  induction k generalizing s acc with
  | zero =>
    cases s with
    | nil => simp at hc
    | cons a r =>
      simp at hc; subst hc
      simp [hfold] at h; subst h
      simp [hfold]
      cases hv a <;> rfl
  | succ k ih =>
    cases s with
    | nil => simp at hc
    | cons a r =>
      simp at hc
      rw [List.take_succ_cons, hfold] at h ⊢
      cases ha : hv a with
      | none => rw [ha] at h; cases h
      | some d =>
        rw [ha] at h
        exact ih r _ hc h
theorem hfold_none (s : List UInt8) (acc k : Nat) (h : hfold (s.take k) acc = none) : hfold s acc = none := by
  induction k generalizing s acc with
  | zero => simp [hfold] at h
  | succ k ih =>
    cases s with
    | nil => simp [hfold] at h
    | cons a r =>
      rw [List.take_succ_cons, hfold] at h
      rw [hfold]
      cases ha : hv a with
      | none => rfl
      | some d =>
        rw [ha] at h
        exact ih r _ h
end Go.Proofs.YtdhdknjefjolpaaDoor.Pl
end
section
/-
  Package octet: Pack, Unpack, digits, value, FromHex, Hex.
-/
namespace Go.Proofs.YtdhdknjefjolpaaDoor
set_option linter.unusedSimpArgs false
set_option linter.unusedVariables false
set_option maxRecDepth 10000
open Go.RowKit Pl

theorem str_at' (s : ByteArray) (k : Nat) (h : k < s.size) : s.toList[k]? = some s[k] := by
  rw [ByteArray.toList_eq, List.getElem?_eq_getElem (by simpa using h)]
  rfl
theorem str_len (s : ByteArray) : s.toList.length = s.size := by rw [ByteArray.toList_eq]; simp

def valueV (c : UInt8) : Value := match hv c with | some d => .tuple #[.int .u32 (d : Int), .bool true] | none => .tuple #[.int .u32 0, .bool false]



theorem octValue_calls (c : UInt8) (w : World) :
    Calls Tryd.prog 92 #[.int .u8 (c.toNat : Int)] w fun e w' => e = .returned (valueV c) ∧ w = w' := by
  have hc := c.toNat_lt
  have hv1 : 48 ≤ c.toNat → c.toNat ≤ 57 → valueV c = .tuple #[.int .u32 ((c.toNat - 48 : Nat) : Int), .bool true] := fun a b => by unfold valueV hv; rw [if_pos ⟨a, b⟩]
  have hv2 : 65 ≤ c.toNat → c.toNat ≤ 70 → valueV c = .tuple #[.int .u32 ((c.toNat - 55 : Nat) : Int), .bool true] := fun a b => by unfold valueV hv; rw [if_neg (by omega), if_pos ⟨a, b⟩]
  have hv3 : ¬ (48 ≤ c.toNat ∧ c.toNat ≤ 57) → ¬ (65 ≤ c.toNat ∧ c.toNat ≤ 70) → valueV c = .tuple #[.int .u32 0, .bool false] := fun a b => by unfold valueV hv; rw [if_neg a, if_neg b]
  generalize valueV c = V at *
  generalize c.toNat = n at *
  have H1 := hide hv1
  have H2 := hide hv2
  have H3 := hide hv3
  clear hv1 hv2 hv3
  by_cases h1 : 48 ≤ n
  · by_cases h2 : n ≤ 57
    · go_enter Tryd.func92, Tryd.ntmps92
      go_wp2
      go_ret2
      exact ⟨by rw [H1.out h1 h2]; exact ret_pair' (by omega) rfl, rfl⟩
    · by_cases h3 : 65 ≤ n
      · by_cases h4 : n ≤ 70
        · go_enter Tryd.func92, Tryd.ntmps92
          go_wp2
          go_ret2
          exact ⟨by rw [H2.out h3 h4]; exact ret_pair' (by omega) rfl, rfl⟩
        · go_enter Tryd.func92, Tryd.ntmps92
          go_wp2
          go_ret2
          exact ⟨by rw [H3.out (by omega) (by omega)]; rfl, rfl⟩
      · go_enter Tryd.func92, Tryd.ntmps92
        go_wp2
        go_ret2
        exact ⟨by rw [H3.out (by omega) (by omega)]; rfl, rfl⟩
  · go_enter Tryd.func92, Tryd.ntmps92
    go_wp2
    go_ret2
    exact ⟨by rw [H3.out (by omega) (by omega)]; rfl, rfl⟩

def fhV (r : Nat × Nat) : Value := .tuple #[.int .u32 (r.1 : Int), .int .i64 (r.2 : Int)]
theorem octFromHex_calls (s : ByteArray) (w : World) (hs : s.size ≤ maxLen) :
    Calls Tryd.prog 78 #[.string s] w fun e w' => e = .returned (fhV (fh s.toList)) ∧ w = w' := by
  unfold maxLen at hs
  have hsl := str_len s
  by_cases h0 : s.toList = []
  · have hr : fh s.toList = (0, 4) := by unfold fh; rw [if_pos h0]
    have Hr := hide hr; clear hr
    have h0' : s.toList.isEmpty = true := by simp [h0]
    have H0 := hide h0; clear h0 hsl
    go_enter Tryd.func78, Tryd.ntmps78
    go_wp2
    go_ret2
    exact ⟨by rw [Hr.out]; rfl, rfl⟩
  · have h0' : s.toList.isEmpty = false := by simp [h0]
    have H0 := hide h0; clear h0
    by_cases h8 : 8 < s.size
    · have hr : fh s.toList = (0, 2) := by unfold fh; rw [if_neg H0.out, if_pos (by omega)]
      have Hr := hide hr; clear hr hsl
      go_enter Tryd.func78, Tryd.ntmps78
      go_wp2
      go_ret2
      exact ⟨by rw [Hr.out]; rfl, rfl⟩
    · have hr1 : ∀ n, hfold s.toList 0 = some n → fh s.toList = (n, 0) := fun n h => by unfold fh; rw [if_neg H0.out, if_neg (by omega), h]
      have hr2 : hfold s.toList 0 = none → fh s.toList = (0, 3) := fun h => by unfold fh; rw [if_neg H0.out, if_neg (by omega), h]
      have Hr1 := hide hr1
      have Hr2 := hide hr2
      clear hr1 hr2
      have Hsl := hide hsl; clear hsl
      go_enter Tryd.func78, Tryd.ntmps78
      go_wp2_with fail
      go_loop [4, 17] (fun a i => ∃ (k n : Nat), k ≤ s.size ∧ i = .int .i64 (k : Int) ∧ a = .int .u32 (n : Int) ∧ n < 16 ^ k ∧ hfold (s.toList.take k) 0 = some n) (fun _ i => s.size - (intOf i).toNat)
      case atStart => exact ⟨0, 0, by omega, rfl, rfl, by simp, by simp [hfold]⟩
      case round =>
        obtain ⟨k, n, hk, rfl, rfl, hn, he⟩ := hrel
        have He := hide he; clear he
        have h28 : 16 ^ k ≤ 16 ^ 8 := Nat.pow_le_pow_right (by omega) (by omega)
        have hn32 : n < 4294967296 := by omega
        have Hn := hide hn
        clear hn h28
        by_cases hlt : k < s.size
        · have hlt' : (k : Int) < (s.size : Int) := by omega
          have hat := str_at' s k hlt
          have htk := hfold_take s.toList 0 k s[k] hat n He.out
          have Htk := hide htk
          clear htk hat
          have hnk : n < 268435456 := by
            have h1 := Hn.out
            have h7 : 16 ^ k ≤ 16 ^ 7 := Nat.pow_le_pow_right (by omega) (by omega)
            omega
          go_wp2_with fail
          refine (octValue_calls _ _).mono ?_
          rintro e w' ⟨rfl, rfl⟩
          unfold valueV
          cases hvk : hv s[k] with
          | none =>
            have hnone : hfold s.toList 0 = none := hfold_none _ _ (k + 1) (by rw [Htk.out, hvk]; rfl)
            have Hnone := hide hnone
            clear hnone hvk
            dsimp only
            go_wp2_with fail
            go_ret2
            exact ⟨by rw [Hr2.out Hnone.out]; rfl, rfl⟩
          | some d =>
            have hd := hv_lt hvk
            have hsome : hfold (s.toList.take (k + 1)) 0 = some (n * 16 + d) := by rw [Htk.out, hvk]; rfl
            have Hsome := hide hsome
            clear hsome hvk
            dsimp only
            go_wp2_with fail
            go_round
            case rel => exact ⟨k + 1, n * 16 + d, by omega, by go_num, by go_num, by have := Hn.out; rw [Nat.pow_succ]; omega, Hsome.out⟩
            case measure => simp [intOf]; omega
        · obtain rfl : k = s.size := by omega
          have hall : fh s.toList = (n, 0) := Hr1.out n (by have := He.out; rwa [List.take_of_length_le (by rw [str_len]; exact Nat.le_refl _)] at this)
          have Hall := hide hall
          clear hall
          go_wp2_with fail
          go_ret2
          exact ⟨by rw [Hall.out]; rfl, rfl⟩

def digK (k : Nat) : Nat → Value := fun i => .int .u8 (if i < k then ((hexC i).toNat : Int) else 0)
theorem digK_succ (k : Nat) : ∀ i, i < 16 → updv (digK k) k (.int .u8 ((hexC k).toNat : Int)) i = digK (k + 1) i := by
  intro i _
  unfold updv digK
  by_cases e : i = k
  · subst e
    rw [if_pos rfl, if_pos (by omega)]
  · rw [if_neg e]
    by_cases h1 : i < k
    · rw [if_pos h1, if_pos (by omega)]
    · rw [if_neg h1, if_neg (by omega)]
theorem digK_succ2 (k : Nat) (x : Value) : ∀ i, i < 16 → updv (updv (digK k) k x) k (.int .u8 ((hexC k).toNat : Int)) i = digK (k + 1) i := by
  intro i hi
  rw [← digK_succ k i hi]
  unfold updv
  split <;> rfl

theorem octDigits_calls (w : World) :
    Calls Tryd.prog 70 #[] w fun e w' => e = .returned (.agg (arr 16 (digK 16))) ∧ Below w.heap.size w w' := by
  go_enter Tryd.func70, Tryd.ntmps70
  go_wp2_with fail
  go_loopw [3] (fun i wr => ∃ k : Nat, k ≤ 16 ∧ i = .int .i64 (k : Int) ∧ wr = (w.alloc (.cells (arr 16 (digK 0)) 115)).alloc (.cells (arr 16 (digK k)) 115)) (fun i _ => 16 - (intOf i).toNat)
  case atStart => exact ⟨0, Nat.zero_le _, rfl, rfl⟩
  case round =>
    obtain ⟨k, hk, rfl, rfl⟩ := hrel
    by_cases hlt : k < 16
    · have hlt' : (k : Int) < 16 := by omega
      have hg := arr_get 16 (digK k) k hlt
      have hs := fun x => arr_set 16 (digK k) k x hlt
      have hg2 := fun x => arr_get 16 (updv (digK k) k x) k hlt
      have hs2 := fun x y => arr_set 16 (updv (digK k) k x) k y hlt
      have hx := hexC_toNat k hlt
      have Hx := hide hx; clear hx
      by_cases h10 : k < 10
      · have h10' : (k : Int) < 10 := by omega
        go_wp2_with fail
        go_roundw
        case rel => exact ⟨k + 1, by omega, by go_num, by rw [← arr_congr (digK_succ k), Hx.out, if_pos h10]; congr 4; try omega⟩
        case measure => simp [intOf]; omega
      · have h10' : ¬ (k : Int) < 10 := by omega
        go_wp2_with fail
        go_roundw
        case rel => exact ⟨k + 1, by omega, by go_num, by rw [← arr_congr (digK_succ2 k _), Hx.out, if_neg h10, show (65 : Int) + k - 10 = ((55 + k : Nat) : Int) from by omega]⟩
        case measure => simp [intOf]; omega
    · obtain rfl : k = 16 := by omega
      have h1 : Blk ((w.alloc (.cells (arr 16 (digK 0)) 115)).alloc (.cells (arr 16 (digK 16)) 115)) (w.heap.size + 1) 115 (arr 16 (digK 16)) := heap_alloc2_new w _ _
      have h0 : Blk ((w.alloc (.cells (arr 16 (digK 0)) 115)).alloc (.cells (arr 16 (digK 16)) 115)) w.heap.size 115 (arr 16 (digK 0)) := heap_alloc2_old w _ _
      have hb2 : Below w.heap.size w ((w.alloc (.cells (arr 16 (digK 0)) 115)).alloc (.cells (arr 16 (digK 16)) 115)) := ((Below.refl _ _).alloc (Nat.le_refl _) _).alloc (by simp) _
      generalize (w.alloc _).alloc _ = wx at h1 h0 hb2 ⊢
      go_wp2_with (first
        | (refine wpList_load_row rfl 115 _ rfl (w.heap.size + 1) rfl 115 _ (0, 0) _ h1 Tryd.underlying115 rfl (by kernel_rfl) ?_)
        | (refine wpList_store_row rfl 115 _ _ rfl w.heap.size (arr 16 (digK 16)) rfl rfl 115 _ h0 (by kernel_rfl) rfl (by kernel_rfl) ?_))
      refine bodyPost_ret (results_cell_row rfl _ _ w.heap.size 115 (arr 16 (digK 16)) (0, 0) _ rfl (setRow_heap _ _ _ _ _ _ h0) Tryd.underlying115 rfl (by kernel_rfl)) rfl ⟨rfl, ?_⟩
      exact below_setRow hb2 (Nat.le_refl _) _

/-- So many digits: from 1 to 8. -/
def clampK (k : Int) : Nat := if k < 1 then 1 else if 8 < k then 8 else k.toNat
theorem clampK_of (k : Int) : (k < 1 → clampK k = 1) ∧ (8 < k → clampK k = 8) ∧ (1 ≤ k → k ≤ 8 → (clampK k : Int) = k) := by unfold clampK; refine ⟨fun h => ?_, fun h => ?_, fun h h2 => ?_⟩ <;> split <;> (try split) <;> omega
theorem clampK_le (k : Int) : 1 ≤ clampK k ∧ clampK k ≤ 8 := by unfold clampK; split; omega; split <;> omega
def outK (n kk i : Nat) : Nat → Value := fun j => .int .u8 (if kk - 1 - j < i ∧ j < kk then ((hexC (n / 16 ^ (kk - 1 - j) % 16)).toNat : Int) else 0)

theorem outK_zero (n kk : Nat) : ∀ j, j < kk → outK n kk 0 j = .int .u8 0 := by
  intro j _
  unfold outK
  rw [if_neg (by omega)]
theorem outK_succ (n kk j : Nat) (hj : j < kk) : ∀ i, i < kk → updv (outK n kk j) (kk - 1 - j) (.int .u8 ((hexC (n / 16 ^ j % 16)).toNat : Int)) i = outK n kk (j + 1) i := by
  intro i hi
  unfold updv outK
  by_cases e : i = kk - 1 - j
  · subst e
    rw [if_pos rfl, if_pos (by omega), show kk - 1 - (kk - 1 - j) = j from by omega]
  · rw [if_neg e]
    by_cases h1 : kk - 1 - i < j
    · rw [if_pos ⟨h1, hi⟩, if_pos (by omega)]
    · rw [if_neg (by omega), if_neg (by omega)]
theorem pow16 (j : Nat) : (2 : Int) ^ (4 * j) = ((16 ^ j : Nat) : Int) := by
  rw [Int.pow_mul]
  simp
theorem infoU8' : (Tryd.prog.info? 5).map (fun i => (i.zero, i.size, i.bytes)) = some (some (.int .u8 0), 1, 1) := by kernel_rfl

theorem octHex_calls (n : Nat) (k : Int) (w : World) (hn : n < 4294967296) (_h1 : -9223372036854775808 ≤ k) (_h2 : k ≤ 9223372036854775807) :
    Calls Tryd.prog 43 #[.int .u32 (n : Int), .int .i64 k] w fun e w' => e = .returned (.string ⟨(hexT n (clampK k)).toArray⟩) ∧ Below w.heap.size w w' := by
  have hck := clampK_le k
  have hmm : min (max k 1) 8 = (clampK k : Int) := by unfold clampK; split; omega; split <;> omega
  go_enter Tryd.func43, Tryd.ntmps43
  go_upto_region 1 with fail
  go_cut [1] (fun s1 wx => s1 = .int .i64 (clampK k : Nat) ∧ w = wx)
  case first =>
    go_wp2_with fail
    all_goals
      go_meet
      refine ⟨?_, rfl⟩
      have hk := clampK_of k
      congr 1
      omega
  case rest =>
    obtain ⟨rfl, rfl⟩ := hcut
    obtain ⟨kk, hkk⟩ : ∃ kk, clampK k = kk := ⟨_, rfl⟩
    rw [hkk] at hck ⊢
    have Hkk := hide hkk
    clear hkk hmm
    obtain ⟨hk1, hk8⟩ := hck
    go_wp2_with fail
    refine (octDigits_calls _).mono ?_
    rintro e w1 ⟨rfl, hb1⟩
    have hz : Blk (w1.alloc (.cells (arr 16 (digK 0)) 115)) w1.heap.size 115 (arr 16 (digK 0)) := Blk.new _ _ _
    obtain ⟨i0, hi, hz0, hz1, hz2⟩ := info_parts infoU8'
    have hmk := fun W => run_make_arr (P := Tryd.prog) 22 5 i0 (.int .u8 0) 1 Tryd.underlying22 hi hz0 hz1 hz2 rfl .i64 .i64 kk (by omega) (by omega) W
    clear hi hz0 hz1 hz2
    go_wp2_with (refine wpList_store_row rfl 115 _ _ rfl w1.heap.size (arr 16 (digK 16)) rfl rfl 115 _ hz (by kernel_rfl) rfl (by kernel_rfl) ?_; rw [setRow_new])
    clear hmk hz
    go_loopw [16] (fun i wr => ∃ j : Nat, j ≤ kk ∧ i = .int .i64 (j : Int) ∧ wr = (w1.alloc (.cells (arr 16 (digK 16)) 115)).alloc (.cells (arr kk (outK n kk j)) 5)) (fun i _ => kk - (intOf i).toNat)
    case atStart => exact ⟨0, Nat.zero_le _, rfl, by rw [arr_congr (outK_zero n kk)]⟩
    case round =>
      obtain ⟨j, hj, rfl, rfl⟩ := hrel
      by_cases hlt : j < kk
      · have hlt' : (j : Int) < (kk : Int) := by omega
        have hd16 : n / 16 ^ j % 16 < 16 := Nat.mod_lt _ (by omega)
        have hand : bits .and .u32 ((n : Int) / 2 ^ (4 * j)) 15 = ((n / 16 ^ j % 16 : Nat) : Int) := by
          rw [pow16 j]
          have h := u32_and_nat (n / 16 ^ j) 15 (Nat.lt_of_le_of_lt (Nat.div_le_self _ _) hn) (by omega)
          rw [show (15 : Nat) = 2 ^ 4 - 1 from rfl, Nat.and_two_pow_sub_one_eq_mod] at h
          rw [show ((15 : Int)) = ((2 ^ 4 - 1 : Nat) : Int) from rfl]
          rw [← Int.natCast_ediv, h]
        obtain ⟨d, hd⟩ : ∃ d, n / 16 ^ j % 16 = d := ⟨_, rfl⟩
        rw [hd] at hand hd16
        have Hd := hide hd
        clear hd
        have hgD := arr_get 16 (digK 16) d hd16
        rw [show digK 16 d = .int .u8 ((hexC d).toNat : Int) from by unfold digK; rw [if_pos hd16]] at hgD
        have hgO := arr_get kk (outK n kk j) (kk - 1 - j) (by omega)
        have hsO := fun x => arr_set kk (outK n kk j) (kk - 1 - j) x (by omega)
        go_wp2_with fail
        go_roundw
        case rel => exact ⟨j + 1, by omega, by go_num, by rw [← arr_congr (outK_succ n kk j hlt), Hd.out]⟩
        case measure => simp [intOf]; omega
      · obtain rfl : j = kk := by omega
        have hconv : (convert 22 9 (.slice (some ⟨w1.heap.size + 1, 0, none⟩) j j)).run Tryd.prog ((w1.alloc (.cells (arr 16 (digK 16)) 115)).alloc (.cells (arr j (outK n j j)) 5)) = .ok (.string ⟨(hexT n j).toArray⟩) ((w1.alloc (.cells (arr 16 (digK 16)) 115)).alloc (.cells (arr j (outK n j j)) 5)) := by
          have h := run_convert_bytes_back (P := Tryd.prog) ((w1.alloc (.cells (arr 16 (digK 16)) 115)).alloc (.cells (arr j (outK n j j)) 5)) 22 9 5 ⟨w1.heap.size + 1, 0, none⟩ j (hexT n j) Tryd.underlying22 Tryd.underlying5 Tryd.underlying9 (fun q hq => by
            have hq' : q < j := by rwa [hexT_len] at hq
            rw [show ((⟨w1.heap.size + 1, 0, none⟩ : Addr).add q) = ⟨w1.heap.size + 1, q, none⟩ from by unfold Addr.add; split <;> simp_all]
            rw [(show Blk ((w1.alloc (.cells (arr 16 (digK 16)) 115)).alloc (.cells (arr j (outK n j j)) 5)) (w1.heap.size + 1) 5 (arr j (outK n j j)) from heap_alloc2_new w1 _ _).cell q, arr_get j _ q hq']
            have he := hexT_get n j (j - 1 - q) (by omega)
            rw [show j - 1 - (j - 1 - q) = q from by omega, List.getElem?_eq_getElem hq] at he
            injection he with he
            rw [he]
            unfold outK
            rw [if_pos (by omega)])
          rwa [hexT_len] at h
        go_wp2_with fail
        go_ret
        exact ⟨by rw [Hkk.out]; rfl, (hb1.alloc hb1.size _).alloc (by have := hb1.size; simp; omega) _⟩
end Go.Proofs.YtdhdknjefjolpaaDoor
end
section
/-
  gannetref01: Signed, Left, Right, digits, Hex, FromHex.
-/
namespace Go.Proofs.YtdhdknjefjolpaaDoor
set_option linter.unusedSimpArgs false
set_option linter.unusedVariables false
set_option maxRecDepth 10000
open Go.RowKit Pl





end Go.Proofs.YtdhdknjefjolpaaDoor
end
section
/-
  gannetref01: digits, Hex, FromHex.
-/
namespace Go.Proofs.YtdhdknjefjolpaaDoor
set_option linter.unusedSimpArgs false
set_option linter.unusedVariables false
set_option maxRecDepth 10000
open Go.RowKit Pl

theorem digT_get : ∀ k, k < 16 → ∀ h : k < ((ByteArray.mk #[48, 49, 50, 51, 52, 53, 54, 55, 56, 57, 65, 66, 67, 68, 69, 70])).size, (((ByteArray.mk #[48, 49, 50, 51, 52, 53, 54, 55, 56, 57, 65, 66, 67, 68, 69, 70]))[k]'h) = hexC k := by decide
theorem digT_cut : ∀ k, k < 16 → ((ByteArray.mk #[48, 49, 50, 51, 52, 53, 54, 55, 56, 57, 65, 66, 67, 68, 69, 70])).extract k (k + 1) = ⟨#[hexC k]⟩ := by decide

theorem refDigits_calls (w : World) : Calls Tryd.prog 86 #[] w fun e w' => e = .returned (.string (ByteArray.mk #[48, 49, 50, 51, 52, 53, 54, 55, 56, 57, 65, 66, 67, 68, 69, 70])) ∧ w = w' := by
  go_enter Tryd.func86, Tryd.ntmps86
  go_wp2
  go_ret
  exact ⟨rfl, rfl⟩

theorem hexT_succ (n i : Nat) : hexT n (i + 1) = hexC (n / 16 ^ i % 16) :: hexT n i := rfl
theorem refHex_calls (n : Nat) (k : Int) (w : World) (hn : n < 4294967296) (_h1 : -9223372036854775808 ≤ k) (_h2 : k ≤ 9223372036854775807) :
    Calls Tryd.prog 72 #[.int .u32 (n : Int), .int .i64 k] w fun e w' => e = .returned (.string ⟨(hexT n (clampK k)).toArray⟩) ∧ w = w' := by
  have hck := clampK_le k
  go_enter Tryd.func72, Tryd.ntmps72
  go_upto_if 9 with fail
  go_cut [1] (fun s1 wx => s1 = .int .i64 (if k < 1 then 1 else k) ∧ w = wx)
  case first =>
    by_cases h : k < 1
    · go_wp2_with fail
      go_meet
      exact ⟨by rw [if_pos h], rfl⟩
    · go_wp2_with fail
      go_meet
      exact ⟨by rw [if_neg (by omega)], rfl⟩
  case rest =>
    obtain ⟨rfl, rfl⟩ := hcut
    obtain ⟨q, hq⟩ : ∃ q, (if k < 1 then (1 : Int) else k) = q := ⟨_, rfl⟩
    rw [hq]
    have hqk : (q ≤ 8 → (clampK k : Int) = q) ∧ (8 < q → clampK k = 8) := by unfold clampK; rw [← hq]; constructor <;> intro h <;> split at h <;> (repeat' split) <;> omega
    clear hq
    go_upto_if 11 with fail
    go_cut [1] (fun s1 wx => s1 = .int .i64 (clampK k : Nat) ∧ w = wx)
    case first =>
      by_cases h : 8 < q
      · have h2 := hqk.2 h
        go_wp2_with fail
        go_meet
        exact ⟨by rw [h2]; rfl, rfl⟩
      · have h2 := hqk.1 (by omega)
        go_wp2_with fail
        go_meet
        exact ⟨by rw [h2], rfl⟩
    case rest =>
    obtain ⟨rfl, rfl⟩ := hcut
    obtain ⟨kk, hkk⟩ : ∃ kk, clampK k = kk := ⟨_, rfl⟩
    rw [hkk] at hck ⊢
    have Hkk := hide hkk
    clear hkk
    obtain ⟨hk1, hk8⟩ := hck
    go_wp2_with fail
    go_loop [0, 5, 6] (fun m t i => ∃ j : Nat, j ≤ kk ∧ i = .int .i64 (j : Int) ∧ m = .int .u32 ((n / 16 ^ j : Nat) : Int) ∧ t = .string ⟨(hexT n j).toArray⟩) (fun _ _ i => kk - (intOf i).toNat)
    case atStart => exact ⟨0, Nat.zero_le _, rfl, by simp, rfl⟩
    case round =>
      obtain ⟨j, hj, rfl, rfl, rfl⟩ := hrel
      by_cases hlt : j < kk
      · have hlt' : (j : Int) < (kk : Int) := by omega
        have hx : ∀ m : Nat, m = n / 16 ^ j → m < 4294967296 := fun m hm => by rw [hm]; exact Nat.lt_of_le_of_lt (Nat.div_le_self _ _) hn
        obtain ⟨m, hm⟩ : ∃ m, n / 16 ^ j = m := ⟨_, rfl⟩
        have hm32 := hx m hm.symm
        have hm1 : n / 16 ^ (j + 1) = m / 16 := by rw [Nat.pow_succ, ← Nat.div_div_eq_div_mul, hm]
        have hcut := digT_cut (m % 16) (Nat.mod_lt _ (by omega))
        have Hcut := hide hcut
        have hts : hexT n (j + 1) = hexC (m % 16) :: hexT n j := by rw [hexT_succ, hm]
        rw [hm]
        have Hts := hide hts
        have Hm := hide hm
        have Hm1 := hide hm1
        have hz : (hexT n j).length ≤ 8 := by rw [hexT_len]; omega
        clear hcut hx hm hm1 hts
        (go_wp2_with fail; refine Cl.p (refDigits_calls _) ?_)
        go_wp2_with fail
        go_round
        case rel => exact ⟨j + 1, by omega, by go_num, by rw [Hm1.out]; go_num, by rw [Hts.out, Hcut.out]; exact congrArg Value.string (by apply ByteArray.ext; simp)⟩
        case measure => simp [intOf]; omega
      · obtain rfl : j = kk := by omega
        go_wp2_with fail
        go_ret
        exact ⟨by rw [Hkk.out]; rfl, rfl⟩

/-- The digit's value, as far as was looked. -/
def dk (c : UInt8) (k : Nat) : Int := match hv c with
  | some d => if d < k then (d : Int) else -1
  | none => -1
theorem dk_hit (c : UInt8) (k : Nat) (hk : k < 16) (h : (hexC k).toNat = c.toNat) : dk c (k + 1) = k := by
  have : hexC k = c := UInt8.toNat_inj.1 h
  subst this
  unfold dk
  rw [hv_hexC k hk]
  simp
theorem dk_miss (c : UInt8) (k : Nat) (h : ¬ (hexC k).toNat = c.toNat) : dk c (k + 1) = dk c k := by
  unfold dk
  cases hc : hv c with
  | none => rfl
  | some d =>
    have h1 := hexC_hv hc
    have : d ≠ k := by rintro rfl; exact h (by rw [h1])
    dsimp only
    split <;> split <;> omega
theorem dk_zero (c : UInt8) : dk c 0 = -1 := by unfold dk; split <;> simp
theorem refFromHex_calls (s : ByteArray) (w : World) (hs : s.size ≤ maxLen) :
    Calls Tryd.prog 82 #[.string s] w fun e w' => e = .returned (fhV (fh s.toList)) ∧ ∃ n, w' = w.drewN n := by
  unfold maxLen at hs
  have hsl := str_len s
  by_cases h0 : s.toList = []
  · have hr : fh s.toList = (0, 4) := by unfold fh; rw [if_pos h0]
    have Hr := hide hr; clear hr
    have h0' : (s.size : Int) = 0 := by rw [h0] at hsl; simp at hsl; omega
    have H0 := hide h0; clear h0 hsl
    go_enter Tryd.func82, Tryd.ntmps82
    go_wp2
    go_ret2
    exact ⟨by rw [Hr.out]; rfl, 0, rfl⟩
  · have h0' : ¬ (s.size : Int) = 0 := by intro h; apply h0; have : s.toList.length = 0 := by omega
                                          exact List.length_eq_zero_iff.1 this
    have H0 := hide h0; clear h0
    by_cases h8 : 8 < s.size
    · have hr : fh s.toList = (0, 2) := by unfold fh; rw [if_neg H0.out, if_pos (by omega)]
      have Hr := hide hr; clear hr hsl
      go_enter Tryd.func82, Tryd.ntmps82
      go_wp2
      go_ret2
      exact ⟨by rw [Hr.out]; rfl, 0, rfl⟩
    · have hr1 : ∀ n, hfold s.toList 0 = some n → fh s.toList = (n, 0) := fun n h => by unfold fh; rw [if_neg H0.out, if_neg (by omega), h]
      have hr2 : hfold s.toList 0 = none → fh s.toList = (0, 3) := fun h => by unfold fh; rw [if_neg H0.out, if_neg (by omega), h]
      have Hr1 := hide hr1
      have Hr2 := hide hr2
      clear hr1 hr2
      have Hsl := hide hsl; clear hsl
      go_enter Tryd.func82, Tryd.ntmps82
      go_wp2_with fail
      go_loopw [4, 5] (fun a i wr => ∃ (k n q : Nat), k ≤ s.size ∧ i = .int .i64 (k : Int) ∧ a = .int .u32 (n : Int) ∧ n < 16 ^ k ∧ hfold (s.toList.take k) 0 = some n ∧ wr = w.drewN q) (fun _ i _ => s.size - (intOf i).toNat)
      case atStart => exact ⟨0, 0, 0, by omega, rfl, rfl, by simp, by simp [hfold], rfl⟩
      case round =>
        obtain ⟨k, n, q, hk, rfl, rfl, hn, he, rfl⟩ := hrel
        have He := hide he; clear he
        have h28 : 16 ^ k ≤ 16 ^ 8 := Nat.pow_le_pow_right (by omega) (by omega)
        have hn32 : n < 4294967296 := by omega
        have Hn := hide hn
        clear hn h28
        by_cases hlt : k < s.size
        · have hlt' : (k : Int) < (s.size : Int) := by omega
          have hat := str_at' s k hlt
          have htk := hfold_take s.toList 0 k s[k] hat n He.out
          obtain ⟨c, hc⟩ : ∃ c, s[k] = c := ⟨_, rfl⟩
          rw [hc] at htk
          have Htk := hide htk
          clear htk
          have hc := hide hc
          have hnk : n < 268435456 := by
            have h1 := Hn.out
            have h7 : 16 ^ k ≤ 16 ^ 7 := Nat.pow_le_pow_right (by omega) (by omega)
            omega
          go_wp2_with fail
          go_loopw [6, 7] (fun d i wr => ∃ (m q : Nat), m ≤ 16 ∧ i = .int .i64 (m : Int) ∧ d = .int .i64 (dk c m) ∧ wr = w.drewN q) (fun _ i _ => 16 - (intOf i).toNat)
          case atStart => exact ⟨0, q, by omega, rfl, by rw [dk_zero], rfl⟩
          case round =>
            obtain ⟨m, q, hm, rfl, rfl, rfl⟩ := hrel
            by_cases hlm : m < 16
            · have hlm' : (m : Int) < 16 := by omega
              have hms : m < ((ByteArray.mk #[48, 49, 50, 51, 52, 53, 54, 55, 56, 57, 65, 66, 67, 68, 69, 70])).size := hlm
              have hdt := digT_get m hlm hms
              by_cases heq : (hexC m).toNat = c.toNat
              · have heq' : (((((ByteArray.mk #[48, 49, 50, 51, 52, 53, 54, 55, 56, 57, 65, 66, 67, 68, 69, 70]))[m]'hms).toNat : Int) == (s[k].toNat : Int)) = true := by rw [hdt, heq, hc.out]; exact beq_self_eq_true _
                have hdk := dk_hit c m hlm heq
                have Hdk := hide hdk
                clear hdk
                go_wp2_with fail
                go_quiet ((go_at_call 86; first | exact quiet_left (refDigits_calls _) | exact quiet_add_left (refDigits_calls _)))
                go_wp2_with fail
                go_roundw
                case rel => exact ⟨m + 1, _, by omega, by go_num, by rw [Hdk.out], rfl⟩
                case measure => simp [intOf]; omega
              · have heq' : (((((ByteArray.mk #[48, 49, 50, 51, 52, 53, 54, 55, 56, 57, 65, 66, 67, 68, 69, 70]))[m]'hms).toNat : Int) == (s[k].toNat : Int)) = false := by rw [hdt, hc.out, beq_eq_false_iff_ne]; omega
                have hdk := dk_miss c m heq
                have Hdk := hide hdk
                clear hdk
                go_wp2_with fail
                go_quiet ((go_at_call 86; first | exact quiet_left (refDigits_calls _) | exact quiet_add_left (refDigits_calls _)))
                go_wp2_with fail
                go_roundw
                case rel => exact ⟨m + 1, _, by omega, by go_num, by rw [Hdk.out], rfl⟩
                case measure => simp [intOf]; omega
            · obtain rfl : m = 16 := by omega
              cases hvk : hv c with
              | none =>
                have hnone : hfold s.toList 0 = none := hfold_none _ _ (k + 1) (by rw [Htk.out, hvk]; rfl)
                have Hnone := hide hnone
                have hd1 : dk c 16 = -1 := by unfold dk; rw [hvk]
                rw [hd1]
                clear hnone hvk hd1
                go_wp2_with fail
                go_ret2
                exact ⟨by rw [Hr2.out Hnone.out]; rfl, q, rfl⟩
              | some d =>
                have hd := hv_lt hvk
                have hsome : hfold (s.toList.take (k + 1)) 0 = some (n * 16 + d) := by rw [Htk.out, hvk]; rfl
                have Hsome := hide hsome
                have hd1 : dk c 16 = (d : Int) := by unfold dk; rw [hvk]; dsimp only; rw [if_pos hd]
                rw [hd1]
                clear hsome hvk hd1
                go_wp2_with fail
                go_roundw
                case rel => exact ⟨k + 1, n * 16 + d, q, by omega, by go_num, by go_num, by have := Hn.out; rw [Nat.pow_succ]; omega, Hsome.out, rfl⟩
                case measure => simp [intOf]; omega
        · obtain rfl : k = s.size := by omega
          have hall : fh s.toList = (n, 0) := Hr1.out n (by have := He.out; rwa [List.take_of_length_le (by rw [str_len]; exact Nat.le_refl _)] at this)
          have Hall := hide hall
          clear hall
          go_wp2_with fail
          go_ret2
          exact ⟨by rw [Hall.out]; rfl, q, rfl⟩
end Go.Proofs.YtdhdknjefjolpaaDoor
end
section
/-
  gannetref01.Same.
-/
namespace Go.Proofs.YtdhdknjefjolpaaDoor
set_option linter.unusedSimpArgs false
set_option linter.unusedVariables false
set_option maxRecDepth 10000
open Go.RowKit

/-- Alike. -/
theorem refSame_calls (a b : Option Addr) (la lb ca cb : Nat) (f g : Nat → Int) (w : World) (hf : NumsAt w .u8 a la f) (hg : NumsAt w .u8 b lb g) (hla : la ≤ maxLen) (_hlb : lb ≤ maxLen)
    (hl : la = lb) (hfg : ∀ i, i < la → f i = g i) :
    Calls Tryd.prog 30 #[.slice a la ca, .slice b lb cb] w fun e w' => e = .returned (.bool true) ∧ Below w.heap.size w w' := by
  subst hl
  unfold maxLen at hla
  go_enter Tryd.func30, Tryd.ntmps30
  go_wp2_with fail
  go_loopw [5] (fun i wr => ∃ n q : Nat, n ≤ la ∧ i = .int .i64 (n : Int) ∧ wr = w.drewN q) (fun i _ => la - (intOf i).toNat)
  case atStart => exact ⟨0, 0, by omega, rfl, rfl⟩
  case round =>
    obtain ⟨n, q, hn, rfl, rfl⟩ := hrel
    by_cases hlt : n < la
    · have hlt' : (n : Int) < (la : Int) := by omega
      obtain ⟨bf_, of_, rfl, _, hcf⟩ := hf n hlt
      obtain ⟨bg, og, rfl, _, hcg⟩ := hg n hlt
      have he := hfg n hlt
      rw [← he] at hcg
      clear hf hg hfg he
      go_wp2_with fail
      go_quiet (fail)
      go_wp2_with fail
      go_roundw
      case rel => exact ⟨n + 1, _, by omega, by go_num, rfl⟩
      case measure => simp [intOf]; omega
    · obtain rfl : n = la := by omega
      go_wp2_with fail
      go_ret
      exact ⟨rfl, below_drewN (Below.refl _ _) _⟩
end Go.Proofs.YtdhdknjefjolpaaDoor
end
section
/-
  What is known of types.
-/
namespace Go.Proofs.YtdhdknjefjolpaaDoor
set_option linter.unusedSimpArgs false
set_option linter.unusedVariables false
set_option maxRecDepth 10000
open Go.RowKit

theorem infoU8 : (Tryd.prog.info? 5).map (fun i => (i.zero, i.size, i.bytes)) = some (some (.int .u8 0), 1, 1) := by kernel_rfl
end Go.Proofs.YtdhdknjefjolpaaDoor
end
section
/-
  A row loaded as a whole, in a region that draws: it yields in every world that holds the row.
-/
namespace Go
set_option linter.unusedSimpArgs false
set_option linter.unusedVariables false
set_option maxRecDepth 10000
theorem YieldsIf.row {P : Program} {ops : Array Oper} {S : World → Prop} {o : Oper} {a : Act} (hgd : o.guard = none) (ty : TypeId) (x : Operand) (ho : o.op = .load ty x)
    (g : Nat) (hx : a.eval x = .pointer (some ⟨g, 0, none⟩)) (t : TypeId) (cs : Array Value) (d : TypeDesc) (hS : ∀ w, S w → w.heap[g]? = some (.cells cs t (0, 0)))
    (hu : P.underlying ty = some d) (hd : (match d with | .struct _ | .array _ _ => true | _ => false) = true) (hi : (P.info? ty).map (·.size) = some cs.size) : YieldsIf P ops S o (.agg cs) a :=
  Or.inl ⟨by simp [Region.wanted, hgd], fun w hw => by
    unfold execOp
    simp only [ho, hx, Instr.loadAt, Instr.sureAddr, Sem.run_bind, Sem.run_pure, Result.andThen_ok, run_loadVar_row w g t ty cs (0, 0) d (hS w hw) hu hd hi]⟩
theorem YieldsIf.row_w {P : Program} {ops : Array Oper} {S : World → Prop} {o : Oper} {a : Act} (hw : Region.wanted o (yielded ops a.tmps) = true) (ty : TypeId) (x : Operand) (ho : o.op = .load ty x)
    (g : Nat) (hx : a.eval x = .pointer (some ⟨g, 0, none⟩)) (t : TypeId) (cs : Array Value) (d : TypeDesc) (hS : ∀ w, S w → w.heap[g]? = some (.cells cs t (0, 0)))
    (hu : P.underlying ty = some d) (hd : (match d with | .struct _ | .array _ _ => true | _ => false) = true) (hi : (P.info? ty).map (·.size) = some cs.size) : YieldsIf P ops S o (.agg cs) a :=
  Or.inl ⟨hw, fun w hw => by
    unfold execOp
    simp only [ho, hx, Instr.loadAt, Instr.sureAddr, Sem.run_bind, Sem.run_pure, Result.andThen_ok, run_loadVar_row w g t ty cs (0, 0) d (hS w hw) hu hd hi]⟩
end Go
end
section
/-
  A region that draws its order: what stands in all its worlds may be told more sharply on the way.
-/
namespace Go
set_option linter.unusedSimpArgs false
set_option linter.unusedVariables false
set_option maxRecDepth 10000
theorem wpAnyH_mono {P : Program} {ops : Array Oper} {Q : Exit → Act → World → Prop} {md : Region.Mode} {S S' : World → Prop} (hs : ∀ w, S' w → S w) :
    ∀ {fuel : Nat} {listed : Array Bool} {a : Act} {w : World}, wpAnyH P md ops Q S' fuel listed a w → wpAnyH P md ops Q S fuel listed a w
  | 0, _, _, _, h => h
  | fuel + 1, _, _, _, h => ⟨h.1, fun i hi => wpOp_mono (fun a' w' h' => ⟨hs w' h'.1, wpAnyH_mono hs h'.2⟩) (h.2 i hi)⟩
theorem setRow_same {w : World} {g : Nat} {t : TypeId} {cs : Array Value} (h : w.heap[g]? = some (.cells cs t (0, 0))) : w.setRow g cs = w := by
  have e : (w.setRow g cs).heap = w.heap := by
    apply Array.ext_getElem?
    intro i
    by_cases hi : i = g
    · subst hi
      rw [setRow_heap w i cs cs t (0, 0) h, h]
    · simp only [World.setRow, Array.getElem?_modify]
      rw [if_neg (fun e => hi e.symm)]
  show { w with heap := (w.setRow g cs).heap } = w
  rw [e]
end Go
end
section
/-
  A row loaded as a whole, under a guard that holds.
-/
namespace Go
set_option linter.unusedSimpArgs false
set_option linter.unusedVariables false
set_option maxRecDepth 10000
theorem wpList_load_rowg {P : Program} {ops : Array Oper} {rest : List Oper} {o : Oper} {a : Act} {w : World} {Q : Exit → Act → World → Prop} (hw : Region.wanted o (yielded ops a.tmps) = true) (ty : TypeId) (x : Operand) (ho : o.op = .load ty x)
    (g : Nat) (hx : a.eval x = .pointer (some ⟨g, 0, none⟩)) (t : TypeId) (cs : Array Value) (fr : Nat × Nat) (d : TypeDesc) (hg : w.heap[g]? = some (.cells cs t fr))
    (hu : P.underlying ty = some d) (hd : (match d with | .struct _ | .array _ _ => true | _ => false) = true) (hi : (P.info? ty).map (·.size) = some cs.size)
    (h : wpList P ops Q rest (a.put o.dst (.agg cs)) w) : wpList P ops Q (o :: rest) a w := by
  unfold wpList
  rw [if_pos hw]
  exact .inl (wp_load_row ty x ho g hx t cs fr d hg hu hd hi h)
end Go
end
section
/-
  One value appended to a slice that the call owns: 'out = append(out, v)'.
-/
namespace Go.Proofs.YtdhdknjefjolpaaDoor
set_option linter.unusedSimpArgs false
set_option linter.unusedVariables false
set_option maxRecDepth 10000
open Go.RowKit
section
variable {P : Program}
theorem own1_blk {w : World} {base n size g : Nat} {e : TypeId} {v : Value} {xs : List Value} (h : w.ownsRow base e size v n xs) (hg : v.ownBlock = some g) : base ≤ g ∧ ∃ cur, w.heap[g]? = some (.cells cur e (0, 0)) := by
  rcases h.2 with ⟨rfl, _⟩ | ⟨g', cap, cur, rfl, hb, hh, _⟩
  · cases hg
  · cases hg
    exact ⟨hb, cur, hh⟩
theorem own1_ne {w : World} {base n size g : Nat} {e t : TypeId} {v : Value} {xs : List Value} {cs : Array Value} (h : w.ownsRow base e size v n xs) (hb : w.heap[g]? = some (.cells cs t (0, 0))) (he : e ≠ t) : some g ≠ v.ownBlock := fun hx => by
  obtain ⟨_, c, k⟩ := own1_blk h hx.symm
  rw [hb] at k
  injection k with k
  injection k with _ k
  exact he k.symm
theorem own1_lt {w : World} {base n size g : Nat} {e : TypeId} {v : Value} {xs : List Value} (h : w.ownsRow base e size v n xs) (hg : v.ownBlock = some g) : g < w.heap.size := by
  obtain ⟨_, c, k⟩ := own1_blk h hg
  rcases Nat.lt_or_ge g w.heap.size with hlt | hge
  · exact hlt
  · rw [Array.getElem?_eq_none hge] at k; cases k
theorem own1_keep {w w' : World} {base n size : Nat} {e : TypeId} {v : Value} {xs : List Value} (h : w.ownsRow base e size v n xs) (hk : ∀ g, v.ownBlock = some g → w'.heap[g]? = w.heap[g]?) : w'.ownsRow base e size v n xs := by
  obtain ⟨hl, h⟩ := h
  refine ⟨hl, ?_⟩
  rcases h with h | ⟨g, cap, cur, rfl, hb, hh, r⟩
  · exact Or.inl h
  · exact Or.inr ⟨g, cap, cur, rfl, hb, (hk g rfl).trans hh, r⟩
/-- What an appended value leaves: what lay below, and what is of another type. -/
def AppKeeps (base : Nat) (e : TypeId) (w w' : World) : Prop :=
  Below base w w' ∧ ∀ (g : Nat) (t : TypeId) (cs : Array Value), e ≠ t → w.heap[g]? = some (.cells cs t (0, 0)) → w'.heap[g]? = some (.cells cs t (0, 0))
theorem app_keeps {w w' : World} {base n : Nat} {e : TypeId} {v : Value} {xs : List Value} (o : Obj) (hown : w.ownsRow base e 1 v n xs) (hbase : base ≤ w.heap.size) (hg : (w.alloc o).grownBy w' v.ownBlock) : AppKeeps base e w w' := by
  have hown2 := World.ownsRow.alloc hown o
  refine ⟨((Below.refl base w).alloc hbase o).grown hg (by simp; omega) (fun k hk => (own1_blk hown hk).1), fun g t cs he hb => ?_⟩
  have hb2 : (w.alloc o).heap[g]? = some (.cells cs t (0, 0)) := Blk.alloc (t := t) (cs := cs) hb o
  exact Blk.grown (t := t) (cs := cs) hb2 hg (own1_ne hown2 hb2 he)
theorem wpList_append_one {ops : Array Oper} {rest : List Oper} {o : Oper} {a : Act} {w : World} {Q : Exit → Act → World → Prop} (hgd : o.guard = none) (s x : Operand) (t : TypeId)
    (ho : o.op = .call { callee := .builtin .append, args := #[s, x], argTypes := #[t, t] })
    (base : Nat) (e : TypeId) (i : TypeInfo) (z : Value) (bytes : Nat) (ht : P.underlying t = some (.slice e)) (hi : P.info? e = some i) (hz : i.zero = some z)
    (hsize : i.size = 1) (hby : i.bytes = bytes) (hzs : z.cells.size = 1)
    (v : Value) (n : Nat) (xs : List Value) (hs : a.eval s = v) (hown : w.ownsRow base e 1 v n xs)
    (u : Value) (hx : a.eval x = .slice (some ⟨w.heap.size, 0, none⟩) 1 1) (h1 : u.oneCell' = true) (h63 : n + 1 ≤ maxLen) (hbytes : (n + 1) * bytes ≤ 140737488355328) (hbase : base ≤ w.heap.size)
    (h : ∀ g cap w', w'.ownsRow base e 1 (.slice (some ⟨g, 0, none⟩) (n + 1) cap) (n + 1) (xs ++ [u]) → AppKeeps base e w w' → wpList P ops Q rest (a.put o.dst (.slice (some ⟨g, 0, none⟩) (n + 1) cap)) w') : wpList P ops Q (o :: rest) a (w.alloc (.cells #[u] e)) := by
  refine wpList_append_lies _ hgd s x t ho base e i z 1 bytes ht hi hz hsize hby hzs (by decide) v n xs hs (World.ownsRow.alloc hown _) ⟨w.heap.size, 0, none⟩ 1 1 [u] hx rfl
    (World.news_of_block (cs := #[u]) (t := e) (fr := (0, 0)) (heap_alloc_new w _)) (by simpa using h1) (by decide) h63 hbytes (by simp; omega) _ rfl ?_
  intro g cap w' h2 h3 _ _
  exact h g cap w' h2 (app_keeps _ hown hbase h3)
end
end Go.Proofs.YtdhdknjefjolpaaDoor
end
