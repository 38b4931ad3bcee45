/-
  A register state by value, opened.
-/
import Derived.Test.YtelmkpcocaogjaaDoorSta1
import Derived.Test.YtelmkpcocaogjaaDoorOpenF
import Derived.Shelf.Vars
namespace Go.Proofs.YtelmkpcocaogjaaDoor
set_option linter.unusedSimpArgs false
set_option linter.unusedVariables false
open Go.RowKit Pl
section
open Go.ChangeShapes Go.WideShapes Go.ChangeAt
variable {H : Type} {enc : TypeId × Value → H} {w : World} {base : Nat} {spare : Nat → Bool} {held : Bool} {r : Reach} {b0 : Nat} {v : Value} {d : DataW H} {ps : List MemPlace}
def cN : Value → Nat | .int _ n => n.toNat | .bool b => if b then 1 else 0 | _ => 0
theorem one_of {l : List Value} {i : Nat} {x : Value} (h : (l.drop i).take 1 = [x]) : l[i]? = some x := by
  have := congrArg (fun l : List Value => l[0]?) h
  simpa [List.getElem?_take, List.getElem?_drop] using this
set_option maxRecDepth 100000 in
theorem open_state (hv : Value.okWide Tryd.prog w r b0 25 v) (hd : DataW.Trod enc Tryd.prog w base spare held 25 v d ps) :
    ∃ R : Nat → Nat, v = .agg (stA R) ∧ ROk R := by
  have ht := Tryd.underlying25
  unfold Value.okWide at hv
  simp only [ht] at hv
  obtain ⟨cs, rfl, hsz, _⟩ := hv
  obtain ⟨fuel, hf⟩ := hd
  rw [show (Value.agg cs).cells = cs from rfl] at hf
  obtain ⟨ys, n, hn, hy, hlen, hyl, hfs⟩ := DataW.trod_struct ht hf
  have hC : Tryd.prog.cellsOf 25 = 16 := by kernel_rfl
  rw [hC] at hsz
  have c8 : Tryd.prog.cellsOf 5 = 1 := by kernel_rfl
  have c16 : Tryd.prog.cellsOf 22 = 1 := by kernel_rfl
  have cb : Tryd.prog.cellsOf 4 = 1 := by kernel_rfl
  have ca : Tryd.prog.cellsOf 23 = 8 := by kernel_rfl
  have hys : ∀ i, i < 9 → ∃ y, ys[i]? = some y := fun i hi => ⟨_, List.getElem?_eq_getElem (by rw [hyl]; exact hi)⟩
  have u8 : ∀ (j m : Nat) (y : DataW H × List MemPlace), DataW.trod enc Tryd.prog w base spare held m 5 ((cs.toList.drop j).take 1) = some y → ∃ x : Nat, cs[j]? = some (.int .u8 (x : Int)) ∧ x < 256 := fun j m y h => by
    obtain ⟨z, hz, _, hw⟩ := DataW.trod_int Tryd.underlying5 h
    have := bounds_u8 hw
    refine ⟨z.toNat, ?_, by omega⟩
    rw [Int.toNat_of_nonneg (by omega), ← Array.getElem?_toList]
    exact one_of hz
  have k0 := hfs 0 _ rfl
  obtain ⟨y0, hy0⟩ := hys 0 (by decide)
  rw [hy0] at k0
  simp only [List.getElem_toArray, List.getElem_cons_zero, List.getElem_cons_succ, c8] at k0
  have g0 := u8 0 _ _ k0
  have k1 := hfs 1 _ rfl
  obtain ⟨y1, hy1⟩ := hys 1 (by decide)
  rw [hy1] at k1
  simp only [List.getElem_toArray, List.getElem_cons_zero, List.getElem_cons_succ, c8] at k1
  have g1 := u8 1 _ _ k1
  have k2 := hfs 2 _ rfl
  obtain ⟨y2, hy2⟩ := hys 2 (by decide)
  rw [hy2] at k2
  simp only [List.getElem_toArray, List.getElem_cons_zero, List.getElem_cons_succ, c8] at k2
  have g2 := u8 2 _ _ k2
  have k3 := hfs 3 _ rfl
  obtain ⟨y3, hy3⟩ := hys 3 (by decide)
  rw [hy3] at k3
  simp only [List.getElem_toArray, List.getElem_cons_zero, List.getElem_cons_succ, c8] at k3
  have g3 := u8 3 _ _ k3
  have k4 := hfs 4 _ rfl
  obtain ⟨y4, hy4⟩ := hys 4 (by decide)
  rw [hy4] at k4
  simp only [List.getElem_toArray, List.getElem_cons_zero, List.getElem_cons_succ, c8] at k4
  have g4 := u8 4 _ _ k4
  have k7 := hfs 7 _ rfl
  obtain ⟨y7, hy7⟩ := hys 7 (by decide)
  rw [hy7] at k7
  simp only [List.getElem_toArray, List.getElem_cons_zero, List.getElem_cons_succ, c8] at k7
  have g14 := u8 14 _ _ k7
  have g5 : ∃ x : Nat, cs[5]? = some (.int .u16 (x : Int)) ∧ x < 65536 := by
    have h := hfs 5 _ rfl
    obtain ⟨y, hy⟩ := hys 5 (by decide)
    rw [hy] at h
    simp only [List.getElem_toArray, List.getElem_cons_zero, List.getElem_cons_succ, c16] at h
    obtain ⟨z, hz, _, hw⟩ := DataW.trod_int Tryd.underlying22 h
    have := bounds_u16 hw
    refine ⟨z.toNat, ?_, by omega⟩
    rw [Int.toNat_of_nonneg (by omega), ← Array.getElem?_toList]
    exact one_of hz
  have g15 : ∃ x : Bool, cs[15]? = some (.bool x) := by
    have h := hfs 8 _ rfl
    obtain ⟨y, hy⟩ := hys 8 (by decide)
    rw [hy] at h
    simp only [List.getElem_toArray, List.getElem_cons_zero, List.getElem_cons_succ, cb] at h
    obtain ⟨z, hz, _⟩ := DataW.trod_bool Tryd.underlying4 h
    exact ⟨z, by rw [← Array.getElem?_toList]; exact one_of hz⟩
  have gm : ∀ i, i < 8 → ∃ x : Nat, cs[6 + i]? = some (.int .u8 (x : Int)) ∧ x < 256 := fun i hi => by
    have h := hfs 6 _ rfl
    obtain ⟨y, hy⟩ := hys 6 (by decide)
    rw [hy] at h
    simp only [List.getElem_toArray, List.getElem_cons_zero, List.getElem_cons_succ, ca] at h
    obtain ⟨xs, m, _, _, hl, hxn, hall⟩ := DataW.trod_array Tryd.underlying23 h
    have h1 := hall i hi
    rw [List.getElem?_eq_getElem (by omega), c8, Nat.mul_one] at h1
    obtain ⟨z, hz, _, hw⟩ := DataW.trod_int Tryd.underlying5 h1
    have := bounds_u8 hw
    refine ⟨z.toNat, ?_, by omega⟩
    rw [Int.toNat_of_nonneg (by omega), ← Array.getElem?_toList]
    have h2 := one_of hz
    rw [List.getElem?_take, if_pos hi, List.getElem?_drop] at h2
    exact h2
  have gm0 := gm 0 (by omega)
  have gm1 := gm 1 (by omega)
  have gm2 := gm 2 (by omega)
  have gm3 := gm 3 (by omega)
  have gm4 := gm 4 (by omega)
  have gm5 := gm 5 (by omega)
  have gm6 := gm 6 (by omega)
  have gm7 := gm 7 (by omega)
  obtain ⟨x0, e0, b0'⟩ := g0
  obtain ⟨x1, e1, b1⟩ := g1
  obtain ⟨x2, e2, b2⟩ := g2
  obtain ⟨x3, e3, b3⟩ := g3
  obtain ⟨x4, e4, b4⟩ := g4
  obtain ⟨x5, e5, b5⟩ := g5
  obtain ⟨x6, e6, b6⟩ := gm0
  obtain ⟨x7, e7, b7⟩ := gm1
  obtain ⟨x8, e8, b8⟩ := gm2
  obtain ⟨x9, e9, b9⟩ := gm3
  obtain ⟨x10, e10, b10⟩ := gm4
  obtain ⟨x11, e11, b11⟩ := gm5
  obtain ⟨x12, e12, b12⟩ := gm6
  obtain ⟨x13, e13, b13⟩ := gm7
  obtain ⟨x14, e14, b14⟩ := g14
  obtain ⟨x15, e15⟩ := g15
  refine ⟨fun i => [x0, x1, x2, x3, x4, x5, x6, x7, x8, x9, x10, x11, x12, x13, x14, if x15 then 1 else 0].getD i 0, ?_, fun i hi h5 h15 => ?_, b5, ?_⟩
  · congr 1
    apply Array.ext_getElem?
    intro i
    by_cases hi : i < 16
    · have hc : i = 0 ∨ i = 1 ∨ i = 2 ∨ i = 3 ∨ i = 4 ∨ i = 5 ∨ i = 6 ∨ i = 7 ∨ i = 8 ∨ i = 9 ∨ i = 10 ∨ i = 11 ∨ i = 12 ∨ i = 13 ∨ i = 14 ∨ i = 15 := by omega
      rcases hc with rfl | rfl | rfl | rfl | rfl | rfl | rfl | rfl | rfl | rfl | rfl | rfl | rfl | rfl | rfl | rfl
      · exact e0
      · exact e1
      · exact e2
      · exact e3
      · exact e4
      · exact e5
      · exact e6
      · exact e7
      · exact e8
      · exact e9
      · exact e10
      · exact e11
      · exact e12
      · exact e13
      · exact e14
      · rw [e15]; cases x15 <;> rfl
    · rw [Array.getElem?_eq_none (by omega), Array.getElem?_eq_none (by show 16 ≤ i; omega)]
  · have hc : i = 0 ∨ i = 1 ∨ i = 2 ∨ i = 3 ∨ i = 4 ∨ i = 6 ∨ i = 7 ∨ i = 8 ∨ i = 9 ∨ i = 10 ∨ i = 11 ∨ i = 12 ∨ i = 13 ∨ i = 14 := by omega
    rcases hc with rfl | rfl | rfl | rfl | rfl | rfl | rfl | rfl | rfl | rfl | rfl | rfl | rfl | rfl <;> assumption
  · show (if x15 then 1 else 0) < 2
    split <;> omega
/-- The library's own variable holds some number. -/
theorem maxLen_cell {W : World} (h : W.ShapedOpen Tryd.prog) : ∃ M, W.cell? ⟨0, 0, none⟩ = some (.int .i64 M) :=
  Go.Proofs.cell_of_shapedOpen_int (zero := #[.int .i64 0]) (t := 3) h (of_decide_eq_true (by kernel_rfl)) (by kernel_rfl) rfl (by kernel_rfl) (by kernel_rfl) Tryd.underlying3
end
end Go.Proofs.YtelmkpcocaogjaaDoor
