/-
  Package state: Text.
-/
import Derived.Test.YtelmkpcocaogjaaDoorSta12
namespace Go.Proofs.YtelmkpcocaogjaaDoor
open Go.RowKit Pl

def pt (R : Nat → Nat) (i : Nat) : List UInt8 := (prt R).getD i []
def nm4 : Array Value := #[.string (nmB 0), .string (nmB 1), .string (nmB 2), .string (nmB 3)]
theorem tS_len (R : Nat → Nat) : (tS R).length = 74 := by
  unfold tS prt spd
  by_cases h : R 15 = 1
  · rw [if_pos h]; rfl
  · rw [if_neg h]; rfl
theorem pt_all (R : Nat → Nat) : (List.range 9).map (pt R) = prt R := rfl
/-- The five parts that are appended at once. -/
def fiveV (R : Nat → Nat) : List Value := [.string (⟨#[80, 61]⟩ ++ ⟨(txt (R 4)).toArray⟩), .string (⟨#[80, 67, 61]⟩ ++ str (hexT (R 5) 4)), .string (⟨#[77, 61]⟩ ++ str (Lib.join (bkL R) [46])), .string (⟨#[76, 61]⟩ ++ str (hx (R 14))), .string (str (spd (R 15)))]
theorem five_snoc (R : Nat → Nat) : strL (pt R) 4 ++ fiveV R = strL (pt R) 9 := by
  rw [strL_snoc _ 8, strL_snoc _ 7, strL_snoc _ 6, strL_snoc _ 5, strL_snoc _ 4]
  unfold fiveV
  rw [show (⟨#[80, 61]⟩ ++ ⟨(txt (R 4)).toArray⟩ : ByteArray) = str (pt R 4) from str_app [80, 61] _, show (⟨#[80, 67, 61]⟩ ++ str (hexT (R 5) 4) : ByteArray) = str (pt R 5) from str_app [80, 67, 61] _,
    show (⟨#[77, 61]⟩ ++ str (Lib.join (bkL R) [46]) : ByteArray) = str (pt R 6) from str_app [77, 61] _, show (⟨#[76, 61]⟩ ++ str (hx (R 14)) : ByteArray) = str (pt R 7) from str_app [76, 61] _]
  simp only [List.append_assoc, List.cons_append, List.nil_append]
  rfl
set_option maxRecDepth 100000 in
set_option maxHeartbeats 4000000 in
theorem stText_calls (R : Nat → Nat) (w : World) (hR : ROk R) :
    Calls Tryd.prog 8 #[.agg (stA R)] w fun e w' => e = .returned (.string (str (tS R))) ∧ Below w.heap.size w w' := by
  have hX : Blk ((w.alloc (.cells (stA R) 25)).alloc (.cells nm4 9)) w.heap.size 25 (stA R) := Blk.alloc (Blk.new _ _ _) _
  have hN : Blk ((w.alloc (.cells (stA R) 25)).alloc (.cells nm4 9)) (w.heap.size + 1) 9 nm4 := Blk.newAt (by simp)
  have hbA : Below w.heap.size w ((w.alloc (.cells (stA R) 25)).alloc (.cells nm4 9)) := Bl.alloc (Bl.alloc (Below.refl _ _) _) _
  have hsA : ((w.alloc (.cells (stA R) 25)).alloc (.cells nm4 9)).heap.size = w.heap.size + 1 + 1 := by simp
  obtain ⟨i0, hi, hz0, hz1, hz2⟩ := info_parts infoStr'
  go_enter Tryd.func8, Tryd.ntmps8
  go_wp2_with fail
  go_loopw [3, 10] (fun v i wr => ∃ k : Nat, k ≤ 4 ∧ i = .int .i64 (k : Int) ∧ wr.ownsRow (w.heap.size + 1 + 1) 9 1 v k (strL (pt R) k) ∧ Blk wr w.heap.size 25 (stA R) ∧ Blk wr (w.heap.size + 1) 9 nm4 ∧ Below w.heap.size w wr ∧ w.heap.size + 1 + 1 ≤ wr.heap.size) (fun _ i _ => 4 - (intOf i).toNat)
  case atStart => exact ⟨0, Nat.zero_le _, rfl, World.ownsRow_nil _ _ _ _, hX, hN, hbA, Nat.le_of_eq hsA.symm⟩
  case round =>
    obtain ⟨k, hk, rfl, hown, hXr, hNr, hb, hsz⟩ := hrel
    clear hX hN hbA hsA
    by_cases hlt : k < 4
    · have hk4 : k = 0 ∨ k = 1 ∨ k = 2 ∨ k = 3 := by omega
      rcases hk4 with rfl | rfl | rfl | rfl
      · have c0 : wr.cell? ⟨w.heap.size + 1, 0, none⟩ = some (.string ⟨#[65]⟩) := hNr.cell 0
        have hRk := hR.b 0 (by decide) (by decide)
        have hcat : (⟨#[65]⟩ ++ ⟨#[61]⟩ ++ str (hx (R 0)) : ByteArray) = str (pt R 0) := by
          show str [65] ++ str [61] ++ str _ = _
          rw [str_app, str_app]
          rfl
        have hz2x : (str (hx (R 0))).size = 2 := rfl
        have HL : Hid (strL (pt R) 0 ++ [.string (⟨#[65]⟩ ++ ⟨#[61]⟩ ++ str (hx (R 0)))] = strL (pt R) (0 + 1)) := by
          rw [hcat]
          exact (strL_snoc (pt R) 0).symm
        clear hcat
        go_wp2_with (refine wpList_load_row rfl 25 _ rfl w.heap.size rfl _ (stA R) (0, 0) _ hXr Tryd.underlying25 rfl (by kernel_rfl) ?_)
        refine (stGet_yes R 0 _ hR (by decide)).mono ?_
        rintro e w1 ⟨rfl, hb1⟩
        go_wp2_with fail
        refine Cl.m (stHex2_calls (R 0) _ hRk) ?_
        intro w2 hb2
        have hb12 : Below wr.heap.size wr w2 := hb1.trans (hb2.mono hb1.size)
        have hX2 := hXr.below hb12 hXr.lt
        have hN2 := hNr.below hb12 hNr.lt
        have hown2 : w2.ownsRow (w.heap.size + 1 + 1) 9 1 u3 0 (strL (pt R) 0) := own1_keep hown fun g hg => hb12.block g (own1_lt hown hg)
        have hb02 := hb.trans (hb12.mono hb.size)
        have hs2 : w.heap.size + 1 + 1 ≤ w2.heap.size := Nat.le_trans hsz hb12.size
        clear hown hXr hNr hb hb1 hb2 hb12 c0 hsz
        go_wp2_with (at_builtin; refine wpList_append_one rfl _ _ 32 rfl (w.heap.size + 1 + 1) 9 i0 _ 16 Tryd.underlying32 hi hz0 hz1 hz2 rfl _ _ _ rfl hown2 _ rfl rfl (by unfold maxLen; omega) (by omega) hs2 ?_; intro gg cap w3 hown3 hkp)
        have hX3 : Blk w3 w.heap.size 25 (stA R) := hX2.below hkp.1 (by omega)
        have hN3 : Blk w3 (w.heap.size + 1) 9 nm4 := hN2.below hkp.1 (by omega)
        have hb3 : Below w.heap.size w w3 := hb02.trans (hkp.1.mono (by omega))
        have hs3 : w.heap.size + 1 + 1 ≤ w3.heap.size := Nat.le_trans hs2 hkp.1.size
        have hown4 : w3.ownsRow (w.heap.size + 1 + 1) 9 1 (.slice (some ⟨gg, 0, none⟩) (0 + 1) cap) (0 + 1) (strL (pt R) (0 + 1)) := by rw [← HL.out]; exact hown3
        clear hown3 hkp hown2 hb02 hs2 hX2 hN2
        go_wp2_with fail
        go_roundw
        case rel => exact ⟨0 + 1, by decide, rfl, hown4, hX3, hN3, hb3, hs3⟩
        case measure => simp [intOf]
      · have c0 : wr.cell? ⟨w.heap.size + 1, 1, none⟩ = some (.string ⟨#[88]⟩) := hNr.cell 1
        have hRk := hR.b 1 (by decide) (by decide)
        have hcat : (⟨#[88]⟩ ++ ⟨#[61]⟩ ++ str (hx (R 1)) : ByteArray) = str (pt R 1) := by
          show str [88] ++ str [61] ++ str _ = _
          rw [str_app, str_app]
          rfl
        have hz2x : (str (hx (R 1))).size = 2 := rfl
        have HL : Hid (strL (pt R) 1 ++ [.string (⟨#[88]⟩ ++ ⟨#[61]⟩ ++ str (hx (R 1)))] = strL (pt R) (1 + 1)) := by
          rw [hcat]
          exact (strL_snoc (pt R) 1).symm
        clear hcat
        go_wp2_with (refine wpList_load_row rfl 25 _ rfl w.heap.size rfl _ (stA R) (0, 0) _ hXr Tryd.underlying25 rfl (by kernel_rfl) ?_)
        refine (stGet_yes R 1 _ hR (by decide)).mono ?_
        rintro e w1 ⟨rfl, hb1⟩
        go_wp2_with fail
        refine Cl.m (stHex2_calls (R 1) _ hRk) ?_
        intro w2 hb2
        have hb12 : Below wr.heap.size wr w2 := hb1.trans (hb2.mono hb1.size)
        have hX2 := hXr.below hb12 hXr.lt
        have hN2 := hNr.below hb12 hNr.lt
        have hown2 : w2.ownsRow (w.heap.size + 1 + 1) 9 1 u3 1 (strL (pt R) 1) := own1_keep hown fun g hg => hb12.block g (own1_lt hown hg)
        have hb02 := hb.trans (hb12.mono hb.size)
        have hs2 : w.heap.size + 1 + 1 ≤ w2.heap.size := Nat.le_trans hsz hb12.size
        clear hown hXr hNr hb hb1 hb2 hb12 c0 hsz
        go_wp2_with (at_builtin; refine wpList_append_one rfl _ _ 32 rfl (w.heap.size + 1 + 1) 9 i0 _ 16 Tryd.underlying32 hi hz0 hz1 hz2 rfl _ _ _ rfl hown2 _ rfl rfl (by unfold maxLen; omega) (by omega) hs2 ?_; intro gg cap w3 hown3 hkp)
        have hX3 : Blk w3 w.heap.size 25 (stA R) := hX2.below hkp.1 (by omega)
        have hN3 : Blk w3 (w.heap.size + 1) 9 nm4 := hN2.below hkp.1 (by omega)
        have hb3 : Below w.heap.size w w3 := hb02.trans (hkp.1.mono (by omega))
        have hs3 : w.heap.size + 1 + 1 ≤ w3.heap.size := Nat.le_trans hs2 hkp.1.size
        have hown4 : w3.ownsRow (w.heap.size + 1 + 1) 9 1 (.slice (some ⟨gg, 0, none⟩) (1 + 1) cap) (1 + 1) (strL (pt R) (1 + 1)) := by rw [← HL.out]; exact hown3
        clear hown3 hkp hown2 hb02 hs2 hX2 hN2
        go_wp2_with fail
        go_roundw
        case rel => exact ⟨1 + 1, by decide, rfl, hown4, hX3, hN3, hb3, hs3⟩
        case measure => simp [intOf]
      · have c0 : wr.cell? ⟨w.heap.size + 1, 2, none⟩ = some (.string ⟨#[89]⟩) := hNr.cell 2
        have hRk := hR.b 2 (by decide) (by decide)
        have hcat : (⟨#[89]⟩ ++ ⟨#[61]⟩ ++ str (hx (R 2)) : ByteArray) = str (pt R 2) := by
          show str [89] ++ str [61] ++ str _ = _
          rw [str_app, str_app]
          rfl
        have hz2x : (str (hx (R 2))).size = 2 := rfl
        have HL : Hid (strL (pt R) 2 ++ [.string (⟨#[89]⟩ ++ ⟨#[61]⟩ ++ str (hx (R 2)))] = strL (pt R) (2 + 1)) := by
          rw [hcat]
          exact (strL_snoc (pt R) 2).symm
        clear hcat
        go_wp2_with (refine wpList_load_row rfl 25 _ rfl w.heap.size rfl _ (stA R) (0, 0) _ hXr Tryd.underlying25 rfl (by kernel_rfl) ?_)
        refine (stGet_yes R 2 _ hR (by decide)).mono ?_
        rintro e w1 ⟨rfl, hb1⟩
        go_wp2_with fail
        refine Cl.m (stHex2_calls (R 2) _ hRk) ?_
        intro w2 hb2
        have hb12 : Below wr.heap.size wr w2 := hb1.trans (hb2.mono hb1.size)
        have hX2 := hXr.below hb12 hXr.lt
        have hN2 := hNr.below hb12 hNr.lt
        have hown2 : w2.ownsRow (w.heap.size + 1 + 1) 9 1 u3 2 (strL (pt R) 2) := own1_keep hown fun g hg => hb12.block g (own1_lt hown hg)
        have hb02 := hb.trans (hb12.mono hb.size)
        have hs2 : w.heap.size + 1 + 1 ≤ w2.heap.size := Nat.le_trans hsz hb12.size
        clear hown hXr hNr hb hb1 hb2 hb12 c0 hsz
        go_wp2_with (at_builtin; refine wpList_append_one rfl _ _ 32 rfl (w.heap.size + 1 + 1) 9 i0 _ 16 Tryd.underlying32 hi hz0 hz1 hz2 rfl _ _ _ rfl hown2 _ rfl rfl (by unfold maxLen; omega) (by omega) hs2 ?_; intro gg cap w3 hown3 hkp)
        have hX3 : Blk w3 w.heap.size 25 (stA R) := hX2.below hkp.1 (by omega)
        have hN3 : Blk w3 (w.heap.size + 1) 9 nm4 := hN2.below hkp.1 (by omega)
        have hb3 : Below w.heap.size w w3 := hb02.trans (hkp.1.mono (by omega))
        have hs3 : w.heap.size + 1 + 1 ≤ w3.heap.size := Nat.le_trans hs2 hkp.1.size
        have hown4 : w3.ownsRow (w.heap.size + 1 + 1) 9 1 (.slice (some ⟨gg, 0, none⟩) (2 + 1) cap) (2 + 1) (strL (pt R) (2 + 1)) := by rw [← HL.out]; exact hown3
        clear hown3 hkp hown2 hb02 hs2 hX2 hN2
        go_wp2_with fail
        go_roundw
        case rel => exact ⟨2 + 1, by decide, rfl, hown4, hX3, hN3, hb3, hs3⟩
        case measure => simp [intOf]
      · have c0 : wr.cell? ⟨w.heap.size + 1, 3, none⟩ = some (.string ⟨#[83]⟩) := hNr.cell 3
        have hRk := hR.b 3 (by decide) (by decide)
        have hcat : (⟨#[83]⟩ ++ ⟨#[61]⟩ ++ str (hx (R 3)) : ByteArray) = str (pt R 3) := by
          show str [83] ++ str [61] ++ str _ = _
          rw [str_app, str_app]
          rfl
        have hz2x : (str (hx (R 3))).size = 2 := rfl
        have HL : Hid (strL (pt R) 3 ++ [.string (⟨#[83]⟩ ++ ⟨#[61]⟩ ++ str (hx (R 3)))] = strL (pt R) (3 + 1)) := by
          rw [hcat]
          exact (strL_snoc (pt R) 3).symm
        clear hcat
        go_wp2_with (refine wpList_load_row rfl 25 _ rfl w.heap.size rfl _ (stA R) (0, 0) _ hXr Tryd.underlying25 rfl (by kernel_rfl) ?_)
        refine (stGet_yes R 3 _ hR (by decide)).mono ?_
        rintro e w1 ⟨rfl, hb1⟩
        go_wp2_with fail
        refine Cl.m (stHex2_calls (R 3) _ hRk) ?_
        intro w2 hb2
        have hb12 : Below wr.heap.size wr w2 := hb1.trans (hb2.mono hb1.size)
        have hX2 := hXr.below hb12 hXr.lt
        have hN2 := hNr.below hb12 hNr.lt
        have hown2 : w2.ownsRow (w.heap.size + 1 + 1) 9 1 u3 3 (strL (pt R) 3) := own1_keep hown fun g hg => hb12.block g (own1_lt hown hg)
        have hb02 := hb.trans (hb12.mono hb.size)
        have hs2 : w.heap.size + 1 + 1 ≤ w2.heap.size := Nat.le_trans hsz hb12.size
        clear hown hXr hNr hb hb1 hb2 hb12 c0 hsz
        go_wp2_with (at_builtin; refine wpList_append_one rfl _ _ 32 rfl (w.heap.size + 1 + 1) 9 i0 _ 16 Tryd.underlying32 hi hz0 hz1 hz2 rfl _ _ _ rfl hown2 _ rfl rfl (by unfold maxLen; omega) (by omega) hs2 ?_; intro gg cap w3 hown3 hkp)
        have hX3 : Blk w3 w.heap.size 25 (stA R) := hX2.below hkp.1 (by omega)
        have hN3 : Blk w3 (w.heap.size + 1) 9 nm4 := hN2.below hkp.1 (by omega)
        have hb3 : Below w.heap.size w w3 := hb02.trans (hkp.1.mono (by omega))
        have hs3 : w.heap.size + 1 + 1 ≤ w3.heap.size := Nat.le_trans hs2 hkp.1.size
        have hown4 : w3.ownsRow (w.heap.size + 1 + 1) 9 1 (.slice (some ⟨gg, 0, none⟩) (3 + 1) cap) (3 + 1) (strL (pt R) (3 + 1)) := by rw [← HL.out]; exact hown3
        clear hown3 hkp hown2 hb02 hs2 hX2 hN2
        go_wp2_with fail
        go_roundw
        case rel => exact ⟨3 + 1, by decide, rfl, hown4, hX3, hN3, hb3, hs3⟩
        case measure => simp [intOf]
    · obtain rfl : k = 4 := by omega
      have b4 := hR.b 4 (by decide) (by decide)
      have b5 := hR.w 5 (by decide)
      have b14 := hR.b 14 (by decide) (by decide)
      have b15 := hR.2.2
      have hsp : (if (R 15 == 1) then 1 else 0) = R 15 := by
        by_cases h : R 15 = 1
        · rw [h]; rfl
        · rw [show R 15 = 0 from by omega]; rfl
      have HSP := hide hsp
      have e5 : IntKind.u32.wrap ((R 5 : Nat) : Int) = (R 5 : Int) := by rw [IntKind.wrap_u32]; omega
      have e14 : IntKind.u32.wrap ((R 14 : Nat) : Int) = (R 14 : Int) := by rw [IntKind.wrap_u32]; omega
      have zt : (⟨(txt (R 4)).toArray⟩ : ByteArray).size = 8 := rfl
      have z4 : (str (hexT (R 5) 4)).size = 4 := rfl
      have zb : (str (Lib.join (bkL R) [46])).size = 23 := rfl
      have z14 : (str (hx (R 14))).size = 2 := rfl
      clear hNr hsp
      have sK : ∀ W, Below wr.heap.size wr W → W.cell? ⟨w.heap.size, 4, none⟩ = some (.int .u8 (R 4 : Int)) ∧ W.cell? ⟨w.heap.size, 5, none⟩ = some (.int .u16 (R 5 : Int)) ∧ W.cell? ⟨w.heap.size, 6, none⟩ = some (.int .u8 (R 6 : Int)) ∧ W.cell? ⟨w.heap.size, 7, none⟩ = some (.int .u8 (R 7 : Int)) ∧ W.cell? ⟨w.heap.size, 8, none⟩ = some (.int .u8 (R 8 : Int)) ∧ W.cell? ⟨w.heap.size, 9, none⟩ = some (.int .u8 (R 9 : Int)) ∧ W.cell? ⟨w.heap.size, 10, none⟩ = some (.int .u8 (R 10 : Int)) ∧ W.cell? ⟨w.heap.size, 11, none⟩ = some (.int .u8 (R 11 : Int)) ∧ W.cell? ⟨w.heap.size, 12, none⟩ = some (.int .u8 (R 12 : Int)) ∧ W.cell? ⟨w.heap.size, 13, none⟩ = some (.int .u8 (R 13 : Int)) ∧ W.cell? ⟨w.heap.size, 14, none⟩ = some (.int .u8 (R 14 : Int)) ∧ W.cell? ⟨w.heap.size, 15, none⟩ = some (.bool (R 15 == 1)) := fun W hw => by
        have hh := hXr.below hw hXr.lt
        exact ⟨hh.cell 4, hh.cell 5, hh.cell 6, hh.cell 7, hh.cell 8, hh.cell 9, hh.cell 10, hh.cell 11, hh.cell 12, hh.cell 13, hh.cell 14, hh.cell 15⟩
      have SK := hide sK
      clear sK
      have sK2 : ∀ W, Below (w.heap.size + 1 + 1) wr W → W.cell? ⟨w.heap.size, 4, none⟩ = some (.int .u8 (R 4 : Int)) ∧ W.cell? ⟨w.heap.size, 5, none⟩ = some (.int .u16 (R 5 : Int)) ∧ W.cell? ⟨w.heap.size, 6, none⟩ = some (.int .u8 (R 6 : Int)) ∧ W.cell? ⟨w.heap.size, 7, none⟩ = some (.int .u8 (R 7 : Int)) ∧ W.cell? ⟨w.heap.size, 8, none⟩ = some (.int .u8 (R 8 : Int)) ∧ W.cell? ⟨w.heap.size, 9, none⟩ = some (.int .u8 (R 9 : Int)) ∧ W.cell? ⟨w.heap.size, 10, none⟩ = some (.int .u8 (R 10 : Int)) ∧ W.cell? ⟨w.heap.size, 11, none⟩ = some (.int .u8 (R 11 : Int)) ∧ W.cell? ⟨w.heap.size, 12, none⟩ = some (.int .u8 (R 12 : Int)) ∧ W.cell? ⟨w.heap.size, 13, none⟩ = some (.int .u8 (R 13 : Int)) ∧ W.cell? ⟨w.heap.size, 14, none⟩ = some (.int .u8 (R 14 : Int)) ∧ W.cell? ⟨w.heap.size, 15, none⟩ = some (.bool (R 15 == 1)) := fun W hw => by
        have hh := hXr.below hw (by omega)
        exact ⟨hh.cell 4, hh.cell 5, hh.cell 6, hh.cell 7, hh.cell 8, hh.cell 9, hh.cell 10, hh.cell 11, hh.cell 12, hh.cell 13, hh.cell 14, hh.cell 15⟩
      have SK2 := hide sK2
      clear sK2
      go_wp2_with fail
      go_cut [3] (fun s3 wx => wx.ownsRow (w.heap.size + 1 + 1) 9 1 s3 9 (strL (pt R) 9) ∧ Below w.heap.size w wx)
      case first =>
        go_region_held3 (fun W => W.cell? ⟨w.heap.size, 4, none⟩ = some (.int .u8 (R 4 : Int)) ∧ W.cell? ⟨w.heap.size, 5, none⟩ = some (.int .u16 (R 5 : Int)) ∧ W.cell? ⟨w.heap.size, 6, none⟩ = some (.int .u8 (R 6 : Int)) ∧ W.cell? ⟨w.heap.size, 7, none⟩ = some (.int .u8 (R 7 : Int)) ∧ W.cell? ⟨w.heap.size, 8, none⟩ = some (.int .u8 (R 8 : Int)) ∧ W.cell? ⟨w.heap.size, 9, none⟩ = some (.int .u8 (R 9 : Int)) ∧ W.cell? ⟨w.heap.size, 10, none⟩ = some (.int .u8 (R 10 : Int)) ∧ W.cell? ⟨w.heap.size, 11, none⟩ = some (.int .u8 (R 11 : Int)) ∧ W.cell? ⟨w.heap.size, 12, none⟩ = some (.int .u8 (R 12 : Int)) ∧ W.cell? ⟨w.heap.size, 13, none⟩ = some (.int .u8 (R 13 : Int)) ∧ W.cell? ⟨w.heap.size, 14, none⟩ = some (.int .u8 (R 14 : Int)) ∧ W.cell? ⟨w.heap.size, 15, none⟩ = some (.bool (R 15 == 1)))
          (first | exact SK2.out _ hd5 | exact SK.out _ (by ((repeat (first | with_reducible assumption | with_reducible exact Below.refl _ _ | with_reducible refine Below.drew ?_ | with_reducible refine Bl.alloc ?_ _)); done)))
          (first
            | (go_at_call 24; refine (flText_calls (R 4) _ b4).mono ?_; rintro e v1 ⟨rfl, hc1⟩; have hd1 : Below wr.heap.size wr v1 := Bl.chain (show Below wr.heap.size wr _ from by ((repeat (first | with_reducible assumption | with_reducible exact Below.refl _ _ | with_reducible refine Below.drew ?_ | with_reducible refine Bl.alloc ?_ _)); done)) hc1 (Nat.le_refl _))
            | (go_at_call 23; (with_reducible refine (stHex4_calls (R 5) _ b5).mono ?_); rintro e v2 ⟨rfl, hc2⟩; have hd2 : Below wr.heap.size wr v2 := Bl.chain (show Below wr.heap.size wr _ from by ((repeat (first | with_reducible assumption | with_reducible exact Below.refl _ _ | with_reducible refine Below.drew ?_ | with_reducible refine Bl.alloc ?_ _)); done)) hc2 (Nat.le_refl _))
            | (go_at_call 25; refine (stBanks_calls R _ hR).mono ?_; rintro e v3 ⟨rfl, hc3⟩; have hd3 : Below wr.heap.size wr v3 := Bl.chain (show Below wr.heap.size wr _ from by ((repeat (first | with_reducible assumption | with_reducible exact Below.refl _ _ | with_reducible refine Below.drew ?_ | with_reducible refine Bl.alloc ?_ _)); done)) hc3 (Nat.le_refl _))
            | (go_at_call 23; (with_reducible refine (stHex2_calls (R 14) _ b14).mono ?_); rintro e v4 ⟨rfl, hc4⟩; have hd4 : Below wr.heap.size wr v4 := Bl.chain (show Below wr.heap.size wr _ from by ((repeat (first | with_reducible assumption | with_reducible exact Below.refl _ _ | with_reducible refine Below.drew ?_ | with_reducible refine Bl.alloc ?_ _)); done)) hc4 (Nat.le_refl _))
            | (go_at_call 26; refine (stSpeed_calls (R 15 == 1) _).mono ?_; rintro e v5 ⟨rfl, rfl⟩; rw [HSP.out])
            | (refine step_append_lies _ (by rfl) (.tmp 30) (.tmp 52) 32 (by rfl) (w.heap.size + 1 + 1) 9 i0 _ 1 16 Tryd.underlying32 hi hz0 hz1 hz2 rfl (by decide) _ 4 (strL (pt R) 4) (by rfl) (World.ownsRow.alloc (own1_keep hown fun g hg => hd4.block g (own1_lt hown hg)) _)
                ⟨v4.heap.size, 0, none⟩ 5 5 _ (by rfl) (by rfl) (World.news_of_block (t := 9) (fr := (0, 0)) (heap_alloc_new v4 _)) (by simp [Value.oneCell'])
                (by decide) (by decide) (by decide) (Nat.le_trans hsz (Nat.le_trans hd4.size (by simp))) _ rfl ?_; intro gg cap w1 hown1 hgrow1 hat hlt1; have hd4b : w.heap.size + 1 + 1 ≤ v4.heap.size := Nat.le_trans hsz hd4.size; have hd5 : Below (w.heap.size + 1 + 1) wr w1 := ((hd4.mono hsz).alloc hd4b _).grown hgrow1 (Nat.le_trans hd4b (by simp)) (fun j hj => (own1_blk hown hj).1)))
        have hb1 : Below w.heap.size w w1 := by
          exact hb.trans (hd5.mono (by omega))
        have hown2 : w1.ownsRow (w.heap.size + 1 + 1) 9 1 (.slice (some ⟨gg, 0, none⟩) 9 cap) 9 (strL (pt R) 9) := by rw [← five_snoc]; exact hown1
        clear hown1 hgrow1
        go_wp2_with fail
        go_meet
        exact ⟨hown2, hb1⟩
      case rest =>
        obtain ⟨hownc, hbc⟩ := hcut
        clear hown hXr hb hsz SK
        go_wp2_with fail
        refine Cl.m (join_own (pt R) hownc (by decide) (by decide) [32] (by rw [pt_all]; show (tS R).length ≤ _; rw [tS_len]; decide)) ?_
        intro w5 hb5
        go_wp2_with fail
        go_ret
        exact ⟨rfl, hbc.trans (hb5.mono hbc.size)⟩
end Go.Proofs.YtelmkpcocaogjaaDoor
