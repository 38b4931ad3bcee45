/-
  Package state: Bytes.
-/
import Derived.Test.YtelmkpcocaogjaaDoorSta3
import Derived.Test.YtelmkpcocaogjaaDoorApp1
namespace Go.Proofs.YtelmkpcocaogjaaDoor
open Go.RowKit Pl

theorem infoU8s : (Tryd.prog.info? 5).map (fun i => (i.zero, i.size, i.bytes)) = some (some (.int .u8 0), 1, 1) := by kernel_rfl
/-- Bytes so far, as values. -/
def btL (B : Nat → Nat) (n : Nat) : List Value := (List.range n).map fun j => .int .u8 (B j : Int)
theorem btL_snoc (B : Nat → Nat) (n : Nat) : btL B (n + 1) = btL B n ++ [.int .u8 (B n : Int)] := by simp [btL, List.range_succ]
/-- How many bytes behind k registers. -/
def bcn (k : Nat) : Nat := if k ≤ 5 then k else k + 1
set_option maxRecDepth 100000 in
set_option maxHeartbeats 1000000 in
theorem stBytes_calls (R : Nat → Nat) (w : World) (hR : ROk R) :
    Calls Tryd.prog 20 #[.agg (stA R)] w fun e w' => ∃ v, e = .returned v ∧ w'.ownsRow w.heap.size 5 1 v 17 (btL (bts R) 17) ∧ Below w.heap.size w w' := by
  have hX : Blk (w.alloc (.cells (stA R) 25)) w.heap.size 25 (stA R) := Blk.new _ _ _
  have hbA : Below w.heap.size w (w.alloc (.cells (stA R) 25)) := Bl.alloc (Below.refl _ _) _
  obtain ⟨i0, hi, hz0, hz1, hz2⟩ := info_parts infoU8s
  go_enter Tryd.func20, Tryd.ntmps20
  go_wp2_with (refine wpList_load_row rfl 25 _ rfl w.heap.size rfl _ (stA R) (0, 0) _ hX Tryd.underlying25 rfl (by kernel_rfl) ?_)
  refine (stOf_calls R _ hR).mono ?_
  rintro e w1 ⟨rfl, hb1⟩
  have hb01 := hbA.trans (hb1.mono hbA.size)
  clear hX hbA hb1
  go_wp2_with fail
  go_loopw [3, 8] (fun v i wr => ∃ k : Nat, k ≤ 16 ∧ i = .int .i64 (k : Int) ∧ wr.ownsRow w.heap.size 5 1 v (bcn k) (btL (bts R) (bcn k)) ∧ Below w.heap.size w wr) (fun _ i _ => 16 - (intOf i).toNat)
  case atStart => exact ⟨0, Nat.zero_le _, rfl, World.ownsRow_nil _ _ _ _, hb01⟩
  case round =>
    obtain ⟨k, hk, rfl, hown, hb⟩ := hrel
    by_cases hlt : k < 16
    · have hix : ∀ w : World, (Instr.index 64 (.agg (vaA R)) (.int .i64 (k : Int))).run Tryd.prog w = .ok (.int .u16 (R k : Int)) w :=
        fun w => run_index_row 64 22 16 Tryd.underlying64 (fun _ => by kernel_rfl) (fun _ => by kernel_rfl) _ .i64 k hlt _ (arr_get 16 _ k hlt) w
      have hlt' : (k : Int) < 16 := by omega
      have hk0 : (0 : Int) ≤ (k : Int) := by omega
      have hw := hR.w k hlt
      have hbase := hb.size
      by_cases h5 : k = 5
      · have hb5 : bcn k = 5 := by rw [h5]; rfl
        have hL1 : btL (bts R) (bcn k) ++ [.int .u8 ((R k % 256 : Nat) : Int)] ++ [.int .u8 ((R k / 256 : Nat) : Int)] = btL (bts R) 7 := by
          rw [hb5, h5, btL_snoc _ 6, btL_snoc _ 5]
          rfl
        have HL := hide hL1
        have h5' : ((k : Int) == 5) = true := by rw [h5]; rfl
        have hbc : bcn k ≤ 5 := by omega
        have HM2 : Hid (bcn (k + 1) = bcn k + 1 + 1) := by
          rw [h5]
          exact rfl
        have HM3 : Hid (bcn k + 1 + 1 = 7) := by
          rw [hb5]
          exact rfl
        clear hb5
        clear hL1 hb01 h5
        go_wp2_with fail
        refine Cl.p (octLo_calls (R k) _ hw) ?_
        go_wp2_with (at_builtin; refine wpList_append_one rfl _ _ 42 rfl w.heap.size 5 i0 _ 1 Tryd.underlying42 hi hz0 hz1 hz2 rfl _ _ _ rfl hown (.int .u8 ((R k % 256 : Nat) : Int)) rfl rfl (by unfold maxLen; omega) (by omega) hbase ?_; intro gg cap w2 hown2 hkp)
        have hb2 := hb.trans hkp.1
        have hbase2 := hb2.size
        clear hkp hown hb hbase
        go_wp2_with fail
        refine Cl.p (octHi_calls (R k) _ hw) ?_
        go_wp2_with (at_builtin; refine wpList_append_one rfl _ _ 42 rfl w.heap.size 5 i0 _ 1 Tryd.underlying42 hi hz0 hz1 hz2 rfl _ _ _ rfl hown2 (.int .u8 ((R k / 256 : Nat) : Int)) rfl rfl (by unfold maxLen; omega) (by omega) hbase2 ?_; intro gg3 cap3 w3 hown3 hkp)
        have hb3 := hb2.trans hkp.1
        clear hkp hown2 hb2 hbase2
        rw [HL.out] at hown3
        go_wp2_with fail
        go_roundw
        case rel => exact ⟨k + 1, by omega, by go_num, by rw [HM2.out, HM3.out]; rw [HM3.out] at hown3; exact hown3, hb3⟩
        case measure => simp [intOf]; omega
      · have hRk := hR.b k hlt h5
        have hL1 : bcn k + 1 = bcn (k + 1) := by
          unfold bcn
          by_cases h : k ≤ 5
          · rw [if_pos h, if_pos (by omega)]
          · rw [if_neg h, if_neg (by omega)]
        have hL2 : btL (bts R) (bcn k) ++ [.int .u8 (R k : Int)] = btL (bts R) (bcn (k + 1)) := by
          rw [← hL1, btL_snoc]
          have e : bts R (bcn k) = R k := by
            unfold bcn bts
            by_cases h : k ≤ 5
            · rw [if_pos h, if_pos (by omega)]
            · rw [if_neg h, if_neg (by omega), if_neg (by omega), if_neg (by omega)]
              rfl
          rw [e]
        have HL1 := hide hL1
        have HL2 := hide hL2
        have h5' : ((k : Int) == 5) = false := by rw [beq_eq_false_iff_ne]; omega
        have hbc : bcn k ≤ 17 := by unfold bcn; split <;> omega
        clear hL1 hL2 h5 hb01
        go_wp2_with fail
        refine Cl.p (stLo_calls (R k) _ hRk) ?_
        go_wp2_with (at_builtin; refine wpList_append_one rfl _ _ 42 rfl w.heap.size 5 i0 _ 1 Tryd.underlying42 hi hz0 hz1 hz2 rfl _ _ _ rfl hown (.int .u8 (R k : Int)) rfl rfl (by unfold maxLen; omega) (by omega) hbase ?_; intro gg cap w2 hown2 hkp)
        have hb2 := hb.trans hkp.1
        clear hkp hown hb hbase
        rw [HL2.out] at hown2
        obtain ⟨nn, hnn⟩ : ∃ x, bcn k + 1 = x := ⟨_, rfl⟩
        rw [hnn] at hown2 ⊢
        have hnn2 : nn = bcn (k + 1) := by rw [← hnn]; exact HL1.out
        have HN := hide hnn2
        clear hnn hnn2
        go_wp2_with fail
        go_roundw
        case rel => exact ⟨k + 1, by omega, by go_num, by rw [← HN.out]; rw [← HN.out] at hown2; exact hown2, hb2⟩
        case measure => simp [intOf]; omega
    · obtain rfl : k = 16 := by omega
      go_wp2_with fail
      go_ret
      exact ⟨_, rfl, hown, hb⟩
end Go.Proofs.YtelmkpcocaogjaaDoor
