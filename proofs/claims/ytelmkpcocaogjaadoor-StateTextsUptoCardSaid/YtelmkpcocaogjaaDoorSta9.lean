/-
  gannetref25: Names, Bytes.
-/
import Derived.Test.YtelmkpcocaogjaaDoorSta7
import Derived.Test.YtelmkpcocaogjaaDoorSta4
namespace Go.Proofs.YtelmkpcocaogjaaDoor
open Go.RowKit Pl

theorem rNames_calls (w : World) :
    Calls Tryd.prog 12 #[] w fun e w' => ∃ g, e = .returned (.slice (some ⟨g, 0, none⟩) 16 16) ∧ Blk w' g 9 nmA ∧ Below w.heap.size w w' := by
  go_enter Tryd.func12, Tryd.ntmps12
  go_wp2_with fail
  go_ret
  exact ⟨_, rfl, Blk.new _ _ _, Bl.alloc (Below.refl _ _) _⟩
theorem own_block {w : World} {base g n : Nat} {e : TypeId} {xs : List Value} (h : Blk w g e xs.toArray) (hb : base ≤ g) (hn : xs.length = n) (hm : n ≤ 9223372036854775807) : w.ownsRow base e 1 (.slice (some ⟨g, 0, none⟩) n n) n xs :=
  ⟨by omega, .inr ⟨g, n, xs.toArray, rfl, hb, h, Nat.le_refl _, hm, by simp; omega, by simp [← hn]⟩⟩
/-- An owned row of one-cell values, read by cells. -/
theorem own1_form {w : World} {base n : Nat} {e : TypeId} {v : Value} {xs : List Value} (h : w.ownsRow base e 1 v n xs) (hn : 0 < n) :
    ∃ g cap, v = .slice (some ⟨g, 0, none⟩) n cap ∧ base ≤ g ∧ g < w.heap.size ∧ n ≤ cap ∧ ∀ j u, xs[j]? = some u → w.cell? ⟨g, j, none⟩ = some u := by
  rcases h.2 with ⟨_, h0⟩ | ⟨g, cap, cur, rfl, hb, hh, hc, _, _, ht⟩
  · omega
  · have hB : Blk w g e cur := hh
    refine ⟨g, cap, rfl, hb, hB.lt, hc, fun j u hj => ?_⟩
    rw [hB.cell]
    have hl : j < xs.length := (List.getElem?_eq_some_iff.1 hj).1
    rw [← ht, List.getElem?_take] at hj
    rw [h.1] at hl
    rw [if_pos (by omega)] at hj
    simpa using hj
theorem btL_get (B : Nat → Nat) (n j : Nat) (h : j < n) : (btL B n)[j]? = some (.int .u8 (B j : Int)) := by simp [btL, h]
set_option maxRecDepth 100000 in
set_option maxHeartbeats 1000000 in
theorem rBytes_calls (R : Nat → Nat) (w : World) (hR : ROk R) :
    Calls Tryd.prog 22 #[.agg (stA R)] w fun e w' => ∃ v, e = .returned v ∧ w'.ownsRow w.heap.size 5 1 v 17 (btL (bts R) 17) ∧ Below w.heap.size w w' := by
  have hX : Blk (w.alloc (.cells (stA R) 25)) w.heap.size 25 (stA R) := Blk.new _ _ _
  have hbA : Below w.heap.size w (w.alloc (.cells (stA R) 25)) := Bl.alloc (Below.refl _ _) _
  obtain ⟨i0, hi, hz0, hz1, hz2⟩ := info_parts infoU8s
  have b5 := hR.w 5 (by omega)
  unfold stA
  go_enter Tryd.func22, Tryd.ntmps22
  go_wp2_with fail
  go_loopw [3, 4] (fun v i wr => ∃ k : Nat, k ≤ 8 ∧ i = .int .i64 (k : Int) ∧ wr.ownsRow w.heap.size 5 1 v (7 + k) (btL (bts R) (7 + k)) ∧ Blk wr w.heap.size 25 (stA R) ∧ Below w.heap.size w wr) (fun _ i _ => 8 - (intOf i).toNat)
  case atStart =>
    refine ⟨0, Nat.zero_le _, rfl, ?_, Blk.alloc hX _, Bl.alloc hbA _⟩
    refine own_block (xs := btL (bts R) 7) ?_ (Nat.le_succ _) rfl (by decide)
    exact Blk.newAt (by simp)
  case round =>
    obtain ⟨k, hk, rfl, hown, hXr, hb⟩ := hrel
    have hbase := hb.size
    clear hX hbA
    by_cases hlt : k < 8
    · have hlt' : (k : Int) < 8 := by omega
      have c0 : wr.cell? ⟨w.heap.size, 6 + k, none⟩ = some (.int .u8 (R (6 + k) : Int)) := by
        rw [hXr.cell]
        match k, hlt with
        | 0, _ | 1, _ | 2, _ | 3, _ | 4, _ | 5, _ | 6, _ | 7, _ => rfl
      have hL : btL (bts R) (7 + k) ++ [.int .u8 (R (6 + k) : Int)] = btL (bts R) (7 + (k + 1)) := by
        rw [← Nat.add_assoc, btL_snoc]
        have e : bts R (7 + k) = R (6 + k) := by
          unfold bts
          rw [if_neg (by omega), if_neg (by omega), if_neg (by omega)]
          congr 1
          omega
        rw [e]
      have HL := hide hL
      clear hL
      go_wp2_with (at_builtin; refine wpList_append_one rfl _ _ 42 rfl w.heap.size 5 i0 _ 1 Tryd.underlying42 hi hz0 hz1 hz2 rfl _ _ _ rfl hown (.int .u8 (R (6 + k) : Int)) rfl rfl (by unfold maxLen; omega) (by omega) hbase ?_; intro gg cap w2 hown2 hkp)
      have hX2 : Blk w2 w.heap.size 25 (stA R) := hkp.2 _ _ _ (by decide) hXr
      have hb2 := hb.trans hkp.1
      rw [HL.out] at hown2
      clear hkp hown hXr hb c0
      go_wp2_with fail
      go_roundw
      case rel => exact ⟨k + 1, by omega, by go_num, hown2, hX2, hb2⟩
      case measure => simp [intOf]; omega
    · obtain rfl : k = 8 := by omega
      have x7 : wr.cell? ⟨w.heap.size, 14, none⟩ = some (.int .u8 (R 14 : Int)) := hXr.cell 14
      have x8 : wr.cell? ⟨w.heap.size, 15, none⟩ = some (.bool (R 15 == 1)) := hXr.cell 15
      have hF : (R 15 == 1) = true ∧ R 15 = 1 ∨ (R 15 == 1) = false ∧ R 15 = 0 := by
        have := hR.2.2
        by_cases h : R 15 = 1
        · left; rw [h]; exact ⟨rfl, rfl⟩
        · right
          have h0 : R 15 = 0 := by omega
          rw [h0]; exact ⟨rfl, rfl⟩
      rcases hF with ⟨hq, h1⟩ | ⟨hq, h1⟩
      · have hL : btL (bts R) (7 + 8) ++ [.int .u8 (R 14 : Int), .int .u8 1] = btL (bts R) 17 := by
          show btL (bts R) 15 ++ _ = _
          rw [btL_snoc _ 16, btL_snoc _ 15, List.append_assoc]
          have e1 : bts R 15 = R 14 := rfl
          have e2 : bts R 16 = R 15 := rfl
          rw [e1, e2, h1]
          rfl
        have HL := hide hL
        rw [hq] at x8
        clear hL hq h1 hXr
        have hnew := World.news_of_block (cs := #[.int .u8 (R 14 : Int), .int .u8 1]) (t := 5) (fr := (0, 0)) (heap_alloc_new wr (.cells #[.int .u8 (R 14 : Int), .int .u8 1] 5))
        have hownA := World.ownsRow.alloc hown (.cells #[.int .u8 (R 14 : Int), .int .u8 1] 5)
        have hbA := Bl.alloc hb (.cells #[.int .u8 (R 14 : Int), .int .u8 1] 5)
        go_wp2_with (at_builtin; refine wpList_append_lies _ rfl _ _ 42 rfl w.heap.size 5 i0 _ 1 1 Tryd.underlying42 hi hz0 hz1 hz2 rfl (by decide) _ _ _ rfl hownA ⟨wr.heap.size, 0, none⟩ 2 2 [.int .u8 (R 14 : Int), .int .u8 1] rfl rfl hnew (by simp [Value.oneCell']) (by decide) (by decide) (by decide) hbA.size _ rfl ?_; intro gg cap w2 hown2 hgrow hat hlt2)
        have hb2 : Below w.heap.size w w2 := hbA.grown hgrow hbA.size (fun j hj => (own1_blk hown hj).1)
        clear hnew hownA
        go_wp2_with fail
        go_ret
        exact ⟨_, rfl, by rw [← HL.out]; exact hown2, hb2⟩
      · have hL : btL (bts R) (7 + 8) ++ [.int .u8 (R 14 : Int), .int .u8 0] = btL (bts R) 17 := by
          show btL (bts R) 15 ++ _ = _
          rw [btL_snoc _ 16, btL_snoc _ 15, List.append_assoc]
          have e1 : bts R 15 = R 14 := rfl
          have e2 : bts R 16 = R 15 := rfl
          rw [e1, e2, h1]
          rfl
        have HL := hide hL
        rw [hq] at x8
        clear hL hq h1 hXr
        have hnew := World.news_of_block (cs := #[.int .u8 (R 14 : Int), .int .u8 0]) (t := 5) (fr := (0, 0)) (heap_alloc_new wr (.cells #[.int .u8 (R 14 : Int), .int .u8 0] 5))
        have hownA := World.ownsRow.alloc hown (.cells #[.int .u8 (R 14 : Int), .int .u8 0] 5)
        have hbA := Bl.alloc hb (.cells #[.int .u8 (R 14 : Int), .int .u8 0] 5)
        go_wp2_with (at_builtin; refine wpList_append_lies _ rfl _ _ 42 rfl w.heap.size 5 i0 _ 1 1 Tryd.underlying42 hi hz0 hz1 hz2 rfl (by decide) _ _ _ rfl hownA ⟨wr.heap.size, 0, none⟩ 2 2 [.int .u8 (R 14 : Int), .int .u8 0] rfl rfl hnew (by simp [Value.oneCell']) (by decide) (by decide) (by decide) hbA.size _ rfl ?_; intro gg cap w2 hown2 hgrow hat hlt2)
        have hb2 : Below w.heap.size w w2 := hbA.grown hgrow hbA.size (fun j hj => (own1_blk hown hj).1)
        clear hnew hownA
        go_wp2_with fail
        go_ret
        exact ⟨_, rfl, by rw [← HL.out]; exact hown2, hb2⟩
end Go.Proofs.YtelmkpcocaogjaaDoor
