/-
  gannetref25: All.
-/
import Derived.Test.YtelmkpcocaogjaaDoorSta9
namespace Go.Proofs.YtelmkpcocaogjaaDoor
open Go.RowKit Pl

theorem own1_row {w : World} {base n : Nat} {e : TypeId} {v : Value} {xs : List Value} (h : w.ownsRow base e 1 v n xs) (hn : 0 < n) :
    ∃ (g cap : Nat) (cur : Array Value), v = .slice (some ⟨g, 0, none⟩) n cap ∧ base ≤ g ∧ Blk w g e cur ∧ n ≤ cap ∧ ∀ (j : Nat) (u : Value), xs[j]? = some u → cur[j]? = some u := by
  rcases h.2 with ⟨_, h0⟩ | ⟨g, cap, cur, rfl, hb, hh, hc, _, _, ht⟩
  · omega
  · refine ⟨g, cap, cur, rfl, hb, hh, hc, fun j u hj => ?_⟩
    have hl : j < xs.length := (List.getElem?_eq_some_iff.1 hj).1
    rw [← ht, List.getElem?_take] at hj
    rw [h.1] at hl
    rw [if_pos (by omega)] at hj
    simpa using hj
theorem infoU16 : (Tryd.prog.info? 22).map (fun i => (i.zero, i.size, i.bytes)) = some (some (.int .u16 0), 1, 2) := by kernel_rfl
def wdL (R : Nat → Nat) (n : Nat) : List Value := (List.range n).map fun j => .int .u16 (R j : Int)
theorem wdL_snoc (R : Nat → Nat) (n : Nat) : wdL R (n + 1) = wdL R n ++ [.int .u16 (R n : Int)] := by simp [wdL, List.range_succ]
theorem wdL_get (R : Nat → Nat) (n j : Nat) (h : j < n) : (wdL R n)[j]? = some (.int .u16 (R j : Int)) := by simp [wdL, h]
theorem bts_hi (R : Nat → Nat) (j : Nat) (h : 7 ≤ j) : bts R j = R (j - 1) := by
  unfold bts
  rw [if_neg (by omega), if_neg (by omega), if_neg (by omega)]
set_option maxRecDepth 100000 in
set_option maxHeartbeats 1000000 in
theorem rAll_calls (R : Nat → Nat) (w : World) (hR : ROk R) :
    Calls Tryd.prog 13 #[.agg (stA R)] w fun e w' => ∃ v, e = .returned v ∧ w'.ownsRow w.heap.size 22 1 v 16 (wdL R 16) ∧ Below w.heap.size w w' := by
  have hX : Blk (w.alloc (.cells (stA R) 25)) w.heap.size 25 (stA R) := Blk.new _ _ _
  have hbA : Below w.heap.size w (w.alloc (.cells (stA R) 25)) := Bl.alloc (Below.refl _ _) _
  obtain ⟨i0, hi, hz0, hz1, hz2⟩ := info_parts infoU16
  have b0 := hR.b 0 (by omega) (by omega)
  have b1 := hR.b 1 (by omega) (by omega)
  have b2 := hR.b 2 (by omega) (by omega)
  have b3 := hR.b 3 (by omega) (by omega)
  have b4 := hR.b 4 (by omega) (by omega)
  go_enter Tryd.func13, Tryd.ntmps13
  go_wp2_with (refine wpList_load_row rfl 25 _ rfl w.heap.size rfl _ (stA R) (0, 0) _ hX Tryd.underlying25 rfl (by kernel_rfl) ?_)
  refine (rBytes_calls R _ hR).mono ?_
  rintro e w1 ⟨v, rfl, hown, hb1⟩
  obtain ⟨gb, cb, cur, rfl, hgb, hB1, hcb, hcs⟩ := own1_row hown (by decide)
  have hX1 := hX.below hb1 hX.lt
  have hb01 := hbA.trans (hb1.mono hbA.size)
  have hbase := hb01.size
  have q := fun j (hj : j < 17) => (hB1.cell j).trans (hcs j _ (btL_get (bts R) 17 j hj))
  have c0 : w1.cell? ⟨gb, 0, none⟩ = some (.int .u8 (R 0 : Int)) := q 0 (by decide)
  have c1 : w1.cell? ⟨gb, 1, none⟩ = some (.int .u8 (R 1 : Int)) := q 1 (by decide)
  have c2 : w1.cell? ⟨gb, 2, none⟩ = some (.int .u8 (R 2 : Int)) := q 2 (by decide)
  have c3 : w1.cell? ⟨gb, 3, none⟩ = some (.int .u8 (R 3 : Int)) := q 3 (by decide)
  have c4 : w1.cell? ⟨gb, 4, none⟩ = some (.int .u8 (R 4 : Int)) := q 4 (by decide)
  have x5 : w1.cell? ⟨w.heap.size, 5, none⟩ = some (.int .u16 (R 5 : Int)) := hX1.cell 5
  have e0 : IntKind.u16.wrap ((R 0 : Nat) : Int) = (R 0 : Int) := by rw [IntKind.wrap_u16]; omega
  have e1 : IntKind.u16.wrap ((R 1 : Nat) : Int) = (R 1 : Int) := by rw [IntKind.wrap_u16]; omega
  have e2 : IntKind.u16.wrap ((R 2 : Nat) : Int) = (R 2 : Int) := by rw [IntKind.wrap_u16]; omega
  have e3 : IntKind.u16.wrap ((R 3 : Nat) : Int) = (R 3 : Int) := by rw [IntKind.wrap_u16]; omega
  have e4 : IntKind.u16.wrap ((R 4 : Nat) : Int) = (R 4 : Int) := by rw [IntKind.wrap_u16]; omega
  clear hown hX hbA hb1 q
  go_wp2_with fail
  go_region_held3 (fun W => W.cell? ⟨gb, 0, none⟩ = some (.int .u8 (R 0 : Int)) ∧ W.cell? ⟨gb, 1, none⟩ = some (.int .u8 (R 1 : Int)) ∧ W.cell? ⟨gb, 2, none⟩ = some (.int .u8 (R 2 : Int)) ∧ W.cell? ⟨gb, 3, none⟩ = some (.int .u8 (R 3 : Int)) ∧ W.cell? ⟨gb, 4, none⟩ = some (.int .u8 (R 4 : Int)) ∧ W.cell? ⟨w.heap.size, 5, none⟩ = some (.int .u16 (R 5 : Int)))
    (first | exact ⟨c0, c1, c2, c3, c4, x5⟩ | exact ⟨(World.cell?_alloc_some w1 _ _ (by rw [c0]; rfl)).trans c0, (World.cell?_alloc_some w1 _ _ (by rw [c1]; rfl)).trans c1, (World.cell?_alloc_some w1 _ _ (by rw [c2]; rfl)).trans c2, (World.cell?_alloc_some w1 _ _ (by rw [c3]; rfl)).trans c3, (World.cell?_alloc_some w1 _ _ (by rw [c4]; rfl)).trans c4, (World.cell?_alloc_some w1 _ _ (by rw [x5]; rfl)).trans x5⟩) (fail)
  clear c0 c1 c2 c3 c4 x5 e0 e1 e2 e3 e4
  go_wp2_with fail
  go_loopw [4, 5] (fun v i wr => ∃ k : Nat, k ≤ 10 ∧ i = .int .i64 ((7 + k : Nat) : Int) ∧ wr.ownsRow w.heap.size 22 1 v (6 + k) (wdL R (6 + k)) ∧ Blk wr gb 5 cur ∧ Below w.heap.size w wr) (fun _ i _ => 17 - (intOf i).toNat)
  case atStart =>
    refine ⟨0, Nat.zero_le _, rfl, ?_, Blk.drew (Blk.alloc hB1 _), Below.drew (Bl.alloc hb01 _)⟩
    exact own_block (xs := wdL R 6) (Blk.drew (Blk.new _ _ _)) hbase rfl (by decide)
  case round =>
    obtain ⟨k, hk, rfl, hown, hBr, hb⟩ := hrel
    have hbaser := hb.size
    clear hB1 hb01 hbase
    by_cases hlt : k < 10
    · obtain ⟨q, hq⟩ : ∃ q, 7 + k = q := ⟨_, rfl⟩
      rw [hq]
      have hlt' : (q : Int) < 17 := by omega
      have hRq := hR.b (6 + k) (by omega) (by omega)
      have hbq : bts R q = R (6 + k) := by
        rw [bts_hi R q (by omega)]
        congr 1
        omega
      have c0 : wr.cell? ⟨gb, q, none⟩ = some (.int .u8 (R (6 + k) : Int)) := by
        rw [hBr.cell, hcs q _ (btL_get (bts R) 17 q (by omega)), hbq]
      have HL : Hid (wdL R (6 + k) ++ [.int .u16 (R (6 + k) : Int)] = wdL R (6 + (k + 1))) := (wdL_snoc R (6 + k)).symm
      have HQ := hide hq
      clear hq hbq
      go_wp2_with (at_builtin; refine wpList_append_one rfl _ _ 34 rfl w.heap.size 22 i0 _ 2 Tryd.underlying34 hi hz0 hz1 hz2 rfl _ _ _ rfl hown (.int .u16 (R (6 + k) : Int)) rfl rfl (by unfold maxLen; omega) (by omega) hbaser ?_; intro gg cap w2 hown2 hkp)
      have hB2 : Blk w2 gb 5 cur := hkp.2 _ _ _ (by decide) hBr
      have hb2 := hb.trans hkp.1
      rw [HL.out] at hown2
      clear hkp hown hBr hb c0
      go_wp2_with fail
      go_roundw
      case rel => exact ⟨k + 1, by omega, by rw [← Nat.add_assoc, HQ.out]; go_num, hown2, hB2, hb2⟩
      case measure => simp [intOf]; omega
    · obtain rfl : k = 10 := by omega
      go_wp2_with fail
      go_ret
      exact ⟨_, rfl, hown, hb⟩
end Go.Proofs.YtelmkpcocaogjaaDoor
