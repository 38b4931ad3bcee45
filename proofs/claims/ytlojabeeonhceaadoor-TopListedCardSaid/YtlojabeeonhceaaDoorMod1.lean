/-
  Package modes: place, address, word, join.
-/
import Derived.Test.YtlojabeeonhceaaDoorOpc5
import Derived.Test.YtlojabeeonhceaaDoorOdig
import Derived.Test.YtlojabeeonhceaaDoorOct
namespace Go.Proofs.YtlojabeeonhceaaDoor
set_option linter.unusedSimpArgs false
set_option linter.unusedVariables false
set_option maxRecDepth 10000
open Go.RowKit Go.Shelf Pl
theorem octHexK_calls (n k : Nat) (x : Int) (w : World) (hx : x = n) (hn : n < 4294967296) (hk : clampK (k : Int) = k) :
    Calls Tryd.prog 8 #[.int .u32 x, .int .i64 (k : Int)] w fun e w' => e = .returned (.string ⟨(hexT n k).toArray⟩) ∧ Below w.heap.size w w' := by
  subst hx
  have h := octHex_calls n k w hn (by have := clampK_le k; omega) (by have := clampK_le k; omega)
  rw [hk] at h
  exact h
/-- Digits, with $ ahead. -/
def dlr (n k : Nat) : List UInt8 := 36 :: hexT n k
theorem dollar_calls (n k : Nat) (w : World) (hn : n < 4294967296) (hk : clampK (k : Int) = k) :
    Calls Tryd.prog 35 #[.int .u32 (n : Int), .int .i64 (k : Int)] w fun e w' => e = .returned (.string ⟨(dlr n k).toArray⟩) ∧ Below w.heap.size w w' := by
  have hh := fun W => octHexK_calls n k n W rfl hn hk
  have hl : (hexT n k).length ≤ 8 := by rw [hexT_len]; have := clampK_le k; omega
  unfold dlr
  generalize hexT n k = l at *
  clear hk hn
  go_enter Tryd.func35, Tryd.ntmps35
  go_wp2_with fail
  refine Cl.m (hh _) ?_
  intro w1 hb1
  go_wp2_with fail
  go_ret
  exact ⟨rfl, hb1⟩
theorem place_calls (b : Nat) (w : World) (hb : b < 256) :
    Calls Tryd.prog 24 #[.int .u8 (b : Int)] w fun e w' => e = .returned (.string ⟨(dlr b 2).toArray⟩) ∧ Below w.heap.size w w' := by
  have hd := fun W => dollar_calls b 2 W (by omega) rfl
  generalize dlr b 2 = l at *
  go_enter Tryd.func24, Tryd.ntmps24
  go_wp2_with fail
  refine Cl.m (hd _) ?_
  intro w1 hb1
  go_wp2_with fail
  go_ret
  exact ⟨rfl, hb1⟩
theorem address_calls (a : Nat) (w : World) (ha : a < 65536) :
    Calls Tryd.prog 37 #[.int .u16 (a : Int)] w fun e w' => e = .returned (.string ⟨(dlr a 4).toArray⟩) ∧ Below w.heap.size w w' := by
  have hd := fun W => dollar_calls a 4 W (by omega) rfl
  generalize dlr a 4 = l at *
  go_enter Tryd.func37, Tryd.ntmps37
  go_wp2_with fail
  refine Cl.m (hd _) ?_
  intro w1 hb1
  go_wp2_with fail
  go_ret
  exact ⟨rfl, hb1⟩
/-- Texts with commas between. -/
theorem joinM_calls (bk c : Nat) (xs : List ByteArray) (w : World) (hcells : ∀ (j : Nat) x, xs[j]? = some x → w.cell? ⟨bk, 0 + j, none⟩ = some (.string x)) (hbk : bk < w.heap.size) (hN : xs.length ≤ 10) (hcap : xs.length ≤ c) (hlen : (Lib.join (xs.map (·.data.toList)) [44]).length ≤ 1000) :
    Calls Tryd.prog 36 #[.slice (some ⟨bk, 0, none⟩) xs.length c] w fun e w' => e = .returned (.string ⟨(Lib.join (xs.map (·.data.toList)) [44]).toArray⟩) ∧ Below w.heap.size w w' := by
  have hj := Tryd.strings_Join bk 0 c xs ⟨#[44]⟩ w hcells hbk (by omega) hcap (by show (Lib.join (xs.map (·.data.toList)) [44]).length ≤ _; omega)
  generalize hx : xs.length = n at *
  go_enter Tryd.func36, Tryd.ntmps36
  go_wp2_with fail
  refine Cl.m hj ?_
  intro w1 hb1
  go_wp2_with fail
  go_ret
  exact ⟨rfl, hb1⟩
end Go.Proofs.YtlojabeeonhceaaDoor
