/-
  Arguments opened to plain facts: numbers, bools, strings, slices of numbers.
-/
import Derived.Test.YtodimiffmmkndaaDoorChecked
import Derived.WalkKit
import Derived.ProofKit
import Derived.OpenShut
import Derived.ShutString
import Derived.Below
namespace Go.Proofs.YtodimiffmmkndaaDoor
set_option linter.unusedSimpArgs false
set_option linter.unusedVariables false
set_option maxRecDepth 10000
open Go.ChangeShapes Go.WideShapes Go.ChangeAt Go.RowKit
open Go.ChangeMaps (open_string)

section
variable {H : Type} {enc : TypeId × Value → H} {P : Program} {w : World} {base : Nat} {spare : Nat → Bool} {held : Bool} {r : Reach} {b0 : Nat} {t : TypeId} {v : Value} {d : DataW H} {ps : List MemPlace}

theorem open_u8 (ht : P.underlying t = some (.int .u8)) (hv : Value.okWide P w r b0 t v) (hd : DataW.Trod enc P w base spare held t v d ps) :
    ∃ x : Nat, v = .int .u8 (x : Int) ∧ x < 256 := by
  obtain ⟨n, rfl, _, _, hw⟩ := open_int ht hv hd
  have := bounds_u8 hw
  exact ⟨n.toNat, by rw [Int.toNat_of_nonneg (by omega)], by omega⟩
theorem open_u16 (ht : P.underlying t = some (.int .u16)) (hv : Value.okWide P w r b0 t v) (hd : DataW.Trod enc P w base spare held t v d ps) :
    ∃ x : Nat, v = .int .u16 (x : Int) ∧ x < 65536 := by
  obtain ⟨n, rfl, _, _, hw⟩ := open_int ht hv hd
  have := bounds_u16 hw
  exact ⟨n.toNat, by rw [Int.toNat_of_nonneg (by omega)], by omega⟩
theorem open_u32 (ht : P.underlying t = some (.int .u32)) (hv : Value.okWide P w r b0 t v) (hd : DataW.Trod enc P w base spare held t v d ps) :
    ∃ x : Nat, v = .int .u32 (x : Int) ∧ x < 4294967296 := by
  obtain ⟨n, rfl, _, _, hw⟩ := open_int ht hv hd
  have := bounds_u32 hw
  exact ⟨n.toNat, by rw [Int.toNat_of_nonneg (by omega)], by omega⟩
theorem open_u64 (ht : P.underlying t = some (.int .u64)) (hv : Value.okWide P w r b0 t v) (hd : DataW.Trod enc P w base spare held t v d ps) :
    ∃ x : Nat, v = .int .u64 (x : Int) ∧ x ≤ 18446744073709551615 := by
  obtain ⟨n, rfl, _, _, hw⟩ := open_int ht hv hd
  have := bounds_u64 hw
  exact ⟨n.toNat, by rw [Int.toNat_of_nonneg (by omega)], by omega⟩
theorem open_i64 (ht : P.underlying t = some (.int .i64)) (hv : Value.okWide P w r b0 t v) (hd : DataW.Trod enc P w base spare held t v d ps) :
    ∃ x : Int, v = .int .i64 x ∧ -9223372036854775808 ≤ x ∧ x ≤ 9223372036854775807 := by
  obtain ⟨n, rfl, _, _, hw⟩ := open_int ht hv hd
  exact ⟨n, rfl, bounds_i64 hw⟩
theorem open_yes (ht : P.underlying t = some .bool) (hv : Value.okWide P w r b0 t v) (hd : DataW.Trod enc P w base spare held t v d ps) :
    ∃ x : Bool, v = .bool x := by
  obtain ⟨n, rfl, _, _⟩ := open_bool ht hv hd
  exact ⟨n, rfl⟩
theorem open_str (ht : P.underlying t = some .string) (hv : Value.okWide P w r b0 t v) (hd : DataW.Trod enc P w base spare held t v d ps) :
    ∃ s : ByteArray, v = .string s ∧ s.size ≤ maxLen := by
  obtain ⟨n, rfl, _, _, h⟩ := open_string ht hv hd
  exact ⟨n, rfl, h⟩

/-- A slice that reads, element by element, as the numbers g 0, g 1, .. -/
def NumsAt (w : World) (k : IntKind) (a : Option Addr) (len : Nat) (g : Nat → Int) : Prop :=
  ∀ i, i < len → ∃ b off, a = some ⟨b, off, none⟩ ∧ b < w.heap.size ∧ w.cell? ⟨b, off + i, none⟩ = some (.int k (g i))

theorem cell_lt {w : World} {p : Addr} {v : Value} (h : w.cell? p = some v) : p.block < w.heap.size := by
  rcases Nat.lt_or_ge p.block w.heap.size with hlt | hge
  · exact hlt
  · unfold World.cell? at h
    rw [Array.getElem?_eq_none hge] at h
    simp at h

theorem add_plain (b off i : Nat) : (⟨b, off, none⟩ : Addr).add i = ⟨b, off + i, none⟩ := by
  unfold Addr.add
  split
  · rename_i h
    simp_all
  · rfl

theorem open_nums {e : TypeId} {k : IntKind} (ht : P.underlying t = some (.slice e)) (he : P.underlying e = some (.int k)) (hc : P.cellsOf e = 1)
    (hv : Value.okWide P w r b0 t v) (hd : DataW.Trod enc P w base spare held t v d ps) :
    ∃ (a : Option Addr) (len cap : Nat) (g : Nat → Int), v = .slice a len cap ∧ NumsAt w k a len g ∧ len ≤ cap ∧ cap ≤ maxLen ∧ (∀ i, i < len → (Lit.int k (g i)).wf = true) := by
  obtain ⟨a, len, cap, rfl⟩ := okWide_slice ht hv
  obtain ⟨fuel, hf⟩ := hd
  rcases open_ints ht he hc hf with ⟨hcs, _⟩ | ⟨x, l, c, zs, hcs, _, hl, hm, hz, _, hcell, hwz⟩
  · simp [Value.cells] at hcs
    obtain ⟨rfl, rfl, rfl⟩ := hcs
    exact ⟨none, 0, 0, fun _ => 0, rfl, fun i hi => by omega, Nat.le_refl _, by simp [maxLen], fun i hi => by omega⟩
  · simp [Value.cells] at hcs
    obtain ⟨rfl, rfl, rfl⟩ := hcs
    have hlen : len ≤ zs.length := by rw [hz]; split <;> omega
    refine ⟨some x, len, cap, fun i => zs.getD i 0, rfl, fun i hi => ?_, hl, hm, fun i hi => ?_⟩
    · have hci := hcell i (by omega)
      obtain ⟨b, off, spot⟩ := x
      have hspot : spot = none := by simpa [Addr.add] using World.cell?_spot (hcell 0 (by omega))
      subst hspot
      rw [add_plain] at hci
      exact ⟨b, off, rfl, cell_lt hci, hci⟩
    · have hin : i < zs.length := by omega
      have e : zs.getD i 0 = zs[i] := by simp [List.getD, hin]
      show (Lit.int k (zs.getD i 0)).wf = true
      rw [e]
      exact hwz _ (List.getElem_mem _)

theorem NumsAt.below {w w' : World} {k : IntKind} {a : Option Addr} {len : Nat} {g : Nat → Int} {B : Nat} (h : NumsAt w k a len g) (hb : Below B w w') (hB : w.heap.size ≤ B) : NumsAt w' k a len g := by
  intro i hi
  obtain ⟨b, off, ha, hlt, hc⟩ := h i hi
  exact ⟨b, off, ha, Nat.lt_of_lt_of_le hlt hb.size, (hb.cell (p := ⟨b, off + i, none⟩) (by simp; omega)).trans hc⟩

/-- What the call owns, as numbers. -/
theorem nums_of_own {w : World} {base n : Nat} {e : TypeId} {k : IntKind} {v : Value} {zs : List Int} (h : w.ownsRow base e 1 v n (zs.map (Value.int k))) :
    ∃ a c, v = .slice a n c ∧ NumsAt w k a n (fun i => zs.getD i 0) := by
  obtain ⟨hl, hv | ⟨g, cap, cur, rfl, hb, hh, hn, hcap, hsz, htake⟩⟩ := h
  · obtain ⟨rfl, rfl⟩ := hv
    exact ⟨none, 0, rfl, fun i hi => by omega⟩
  · refine ⟨_, _, rfl, fun i hi => ⟨g, 0, rfl, ?_, ?_⟩⟩
    · rcases Nat.lt_or_ge g w.heap.size with hlt | hge
      · exact hlt
      · rw [Array.getElem?_eq_none hge] at hh; cases hh
    · rw [Nat.zero_add, cell_of_row w g i cur e (0, 0) hh]
      have hl' : zs.length = n := by simpa using hl
      have h1 : (cur.toList.take (n * 1))[i]? = (zs.map (Value.int k))[i]? := by rw [htake]
      rw [List.getElem?_take_of_lt (by omega)] at h1
      rw [← Array.getElem?_toList, h1]
      simp [List.getD, hl', hi]
end

/-- The one cell of a block that was just laid. -/
theorem one_new_at (w : World) (x : Value) (t : TypeId) (g : Nat) (hg : g = w.heap.size) : ∀ j u, [x][j]? = some u → (w.alloc (.cells #[x] t)).cell? ((⟨g, 0, none⟩ : Addr).add j) = some u := by
  subst hg
  intro j u hj
  match j, hj with
  | 0, hj => simp at hj; subst hj; simp [Addr.add]
  | j + 1, hj => simp at hj
theorem one_int (k : IntKind) (n : Int) : ∀ u ∈ [Value.int k n], u.oneCell' = true := by
  intro u hu
  simp at hu
  subst hu
  rfl

/-- A cell in a block that an append leaves alone. -/
theorem grown_cell {w w' : World} {row : Option Nat} (hg : w.grownBy w' row) {p : Addr} {v : Value} (h : w.cell? p = some v) (hne : some p.block ≠ row) : w'.cell? p = some v :=
  (World.cell?_of_block (hg.block p.block (cell_lt h) hne)).trans h
theorem grown_frozen {w w' : World} {row : Option Nat} (hg : w.grownBy w' row) {p : Addr} (hlt : p.block < w.heap.size) (h : w.frozen? p = false) (hne : some p.block ≠ row) : w'.frozen? p = false :=
  (World.frozen?_of_block (hg.block p.block hlt hne)).trans h
/-- A block below the base is no block of what is owned. -/
theorem own_ne {w : World} {base n size : Nat} {e : TypeId} {v : Value} {xs : List Value} (h : w.ownsRow base e size v n xs) {g : Nat} (hg : g < base) : some g ≠ v.ownBlock := by
  intro e
  have := (h.lt g e.symm).1
  omega
end Go.Proofs.YtodimiffmmkndaaDoor
