/-
  gannetlaw06: live, FeedChecks.
-/
import Derived.Test.YtmkhnofhjbaanaaChk06
import Derived.Deep.DeepCutAuto
namespace Go.Proofs.Ytmkhnofhjbaanaa
open Go.RowKit

theorem nums_lit (w : World) (k : IntKind) (zs : List Int) (t : TypeId) (cs : Array Value) (hcs : cs = (zs.map (Value.int k)).toArray) : NumsAt (w.alloc (.cells cs t)) k (some ⟨w.heap.size, 0, none⟩) zs.length (fun i => zs.getD i 0) := by
  subst hcs
  intro i hi
  refine ⟨_, 0, rfl, by simp, ?_⟩
  rw [Nat.zero_add, cell_of_row _ w.heap.size i (zs.map (Value.int k)).toArray t (0, 0) (heap_alloc_new w _)]
  simp [List.getD, hi]
theorem Blk.newAt {w : World} {t : TypeId} {cs : Array Value} {g : Nat} (h : g = w.heap.size) : Blk (w.alloc (.cells cs t)) g t cs := by
  subst h
  exact Blk.new _ _ _
theorem nilNext_calls (w : World) : Calls Try.prog 14 #[.pointer none] w fun e w' => e = .returned (.int .u8 255) ∧ w = w' := by
  go_enter Try.func14, Try.ntmps14
  go_wp2_with fail
  go_ret
  exact ⟨rfl, rfl⟩
theorem nilLeft_calls (w : World) : Calls Try.prog 11 #[.pointer none] w fun e w' => e = .returned (.int .i64 0) ∧ w = w' := by
  go_enter Try.func11, Try.ntmps11
  go_wp2_with fail
  go_ret
  exact ⟨rfl, rfl⟩
theorem nilTaken_calls (w : World) : Calls Try.prog 13 #[.pointer none] w fun e w' => e = .returned (.int .i64 0) ∧ w = w' := by
  go_enter Try.func13, Try.ntmps13
  go_wp2_with fail
  go_ret
  exact ⟨rfl, rfl⟩
theorem nilClone_calls (w : World) : Calls Try.prog 9 #[.pointer none] w fun e w' => e = .returned (.pointer none) ∧ w = w' := by
  go_enter Try.func9, Try.ntmps9
  go_wp2_with fail
  go_ret
  exact ⟨rfl, rfl⟩
theorem nilPeek_calls (w : World) : Calls Try.prog 16 #[.pointer none, .int .i64 0] w fun e w' => e = .returned (.int .u8 255) ∧ w = w' := by
  go_enter Try.func16, Try.ntmps16
  (go_wp2_with fail; refine Cl.p (nilLeft_calls _) ?_)
  go_wp2_with fail
  go_ret
  exact ⟨rfl, rfl⟩
theorem live06_calls (w : World) : Calls Try.prog 6 #[] w fun e w' => e = .returned (.bool true) ∧ Below w.heap.size w w' := by
  have hL := nums_lit w .u8 [1, 2] 5 #[.int .u8 1, .int .u8 2] rfl
  have v0 : nxV (fun i => [1, 2].getD i 0) 2 0 = 1 := rfl
  have v1 : nxV (fun i => [1, 2].getD i 0) 2 1 = 2 := rfl
  have v2 : nxV (fun i => [1, 2].getD i 0) 2 2 = 255 := rfl
  have V0 := hide v0
  have V1 := hide v1
  have V2 := hide v2
  clear v0 v1 v2
  go_enter Try.func6, Try.ntmps6
  go_wp2_with fail
  refine (fdNew_calls _ 2 2 (fun i => [1, 2].getD i 0) _ (by omega) hL).mono ?_
  rintro e w1 ⟨g, o, c, rfl, hF1, hN1, hg, hb1⟩
  go_wp2_with fail
  refine (fdNext_calls g o 2 c 0 _ _ (by omega) (by omega) hF1 hN1).mono ?_
  rintro e w2 ⟨rfl, hF2, ho2⟩
  rw [V0.out]
  have hN2 := hN1.only ho2 (fun j hj e => by omega)
  go_wp2_with fail
  refine (fdNext_calls g o 2 c 1 _ _ (by omega) (by omega) hF2 hN2).mono ?_
  rintro e w3 ⟨rfl, hF3, ho3⟩
  rw [V1.out]
  have hN3 := hN2.only ho3 (fun j hj e => by omega)
  go_wp2_with fail
  refine (fdNext_calls g o 2 c 2 _ _ (by omega) (by omega) hF3 hN3).mono ?_
  rintro e w4 ⟨rfl, hF4, ho4⟩
  rw [V2.out]
  have hs : w.heap.size ≤ w1.heap.size := Nat.le_trans (by simp) hb1.size
  have hb4 : Below w.heap.size w w4 := ((((Below.refl _ _).alloc (Nat.le_refl _) _).trans (hb1.mono (by simp))).trans (((ho2.trans ho3).trans ho4).below hs (fun k e => by simp at hg; omega)))
  (go_wp2_with fail; refine Cl.m (fdLeft_calls g o 2 c 3 _ (by omega) (by omega) hF4) ?_; intro w5 hb5)
  (go_wp2_with fail; refine Cl.p (fdTaken_calls g o 2 c 3 _ (hF4.below hb5 hF4.lt)) ?_)
  (go_wp2_with fail; refine Cl.p (nilNext_calls _) ?_)
  (go_wp2_with fail; refine Cl.p (nilLeft_calls _) ?_)
  (go_wp2_with fail; refine Cl.p (nilTaken_calls _) ?_)
  (go_wp2_with fail; refine Cl.p (nilClone_calls _) ?_)
  (go_wp2_with fail; refine Cl.p (nilPeek_calls _) ?_)
  (go_wp2_with fail; refine Cl.m (fdCheck_calls none none none 0 0 0 0 0 0 _) ?_; intro w6 hb6)
  (go_wp2_with fail; go_ret; exact ⟨rfl, by (repeat (first | exact Below.refl _ _ | assumption | refine Below.drew ?_ | refine Bl.alloc ?_ _ | refine below_drewN ?_ _ | refine Bl.chain ?_ (by assumption) (Nat.le_refl _)))⟩)

set_option maxHeartbeats 4000000 in
theorem feedChecks_calls (a b c : Nat) (w : World) (ha : a < 65536) (hb : b < 65536) (hc : c < 65536) :
    Calls Try.prog 5 #[.int .u16 (a : Int), .int .u16 (b : Int), .int .u16 (c : Int)] w fun e w' => e = .returned (.bool true) ∧ Below w.heap.size w w' := by
  obtain ⟨i0, hi, hz0, hz1, hz2⟩ := info_parts infoU8f
  have hmk := fun c hc W => run_make_arr (P := Try.prog) 22 5 i0 (.int .u8 0) 1 Try.underlying22 hi hz0 hz1 hz2 rfl .i64 .i64 c (show 1 * c ≤ 281474976710656 from Nat.le_trans (Nat.mul_le_mul_left 1 hc) (by decide)) (show c ≤ 9223372036854775807 from Nat.le_trans hc (by decide : 65536 ≤ 9223372036854775807)) W
  clear hi hz0 hz1 hz2
  have m0 := fun W => hmk a (by omega) W
  have m1 := fun W => hmk b (by omega) W
  have m2 := fun W => hmk c (by omega) W
  clear hmk
  go_enter Try.func5, Try.ntmps5
  (go_wp2_with fail; refine Cl.m (live06_calls _) ?_; intro w1 hb1)
  go_upto_region 3 with fail
  go_cut [7] (fun s wx => ∃ B o0 o1 o2, s = .pointer (some ⟨B, 0, none⟩) ∧ Blk wx B 39 #[.slice o0 a a, .slice o1 b b, .slice o2 c c] ∧ Below w1.heap.size w1 wx)
  case first =>
    go_region
    all_goals
      go_wp2_with fail
      go_meet
      first
        | exact ⟨_, _, _, _, rfl, Blk.drew (Blk.newAt (by simp)), Below.drew (Bl.alloc (Bl.alloc (Bl.alloc (Bl.alloc (Below.refl _ _) _) _) _) _)⟩
        | exact ⟨_, _, _, _, rfl, Blk.drew (Blk.alloc (Blk.newAt (by simp)) _), Below.drew (Bl.alloc (Bl.alloc (Bl.alloc (Bl.alloc (Below.refl _ _) _) _) _) _)⟩
        | exact ⟨_, _, _, _, rfl, Blk.drew (Blk.alloc (Blk.alloc (Blk.newAt (by simp)) _) _), Below.drew (Bl.alloc (Bl.alloc (Bl.alloc (Bl.alloc (Below.refl _ _) _) _) _) _)⟩
        | exact ⟨_, _, _, _, rfl, Blk.drew (Blk.alloc (Blk.alloc (Blk.alloc (Blk.newAt (by simp)) _) _) _), Below.drew (Bl.alloc (Bl.alloc (Bl.alloc (Bl.alloc (Below.refl _ _) _) _) _) _)⟩
  case rest =>
    obtain ⟨B, o0, o1, o2, rfl, hblk, hbel⟩ := hcut
    have q0 : World.cell? _ ⟨B, 0, none⟩ = some (.slice o0 a a) := hblk.cell 0
    have q1 : World.cell? _ ⟨B, 1, none⟩ = some (.slice o1 b b) := hblk.cell 1
    have q2 : World.cell? _ ⟨B, 2, none⟩ = some (.slice o2 c c) := hblk.cell 2
    clear m0 m1 m2
    by_cases ha1 : 10000 < a
    · have e : (if 10000 < a ∨ 10000 < b ∨ 10000 < c then (2 : Int) else 0) = 2 := if_pos (Or.inl ha1)
      have i1 : (10000 : Int) < (a : Int) := by omega
      have E := hide e
      clear e
      (go_wp2_with fail; refine Cl.m (fdCheck_calls o0 o1 o2 a b c a b c _) ?_; intro w2 hb2)
      rw [E.out]
      (go_wp2_with fail; go_ret; exact ⟨rfl, by (repeat (first | exact Below.refl _ _ | assumption | refine Below.drew ?_ | refine Bl.alloc ?_ _ | refine below_drewN ?_ _ | refine Bl.chain ?_ (by assumption) (Nat.le_refl _)))⟩)
    · have i1 : (decide ((10000 : Int) < (a : Int))) = false := by rw [decide_eq_false_iff_not]; omega
      by_cases hb1 : 10000 < b
      · have e : (if 10000 < a ∨ 10000 < b ∨ 10000 < c then (2 : Int) else 0) = 2 := if_pos (Or.inr (Or.inl hb1))
        have i2 : (10000 : Int) < (b : Int) := by omega
        have E := hide e
        clear e
        (go_wp2_with fail; refine Cl.m (fdCheck_calls o0 o1 o2 a b c a b c _) ?_; intro w2 hb2)
        rw [E.out]
        (go_wp2_with fail; go_ret; exact ⟨rfl, by (repeat (first | exact Below.refl _ _ | assumption | refine Below.drew ?_ | refine Bl.alloc ?_ _ | refine below_drewN ?_ _ | refine Bl.chain ?_ (by assumption) (Nat.le_refl _)))⟩)
      · have i2 : (decide ((10000 : Int) < (b : Int))) = false := by rw [decide_eq_false_iff_not]; omega
        by_cases hc1 : 10000 < c
        · have e : (if 10000 < a ∨ 10000 < b ∨ 10000 < c then (2 : Int) else 0) = 2 := if_pos (Or.inr (Or.inr hc1))
          have i3 : (10000 : Int) < (c : Int) := by omega
          have E := hide e
          clear e
          (go_wp2_with fail; refine Cl.m (fdCheck_calls o0 o1 o2 a b c a b c _) ?_; intro w2 hb2)
          rw [E.out]
          (go_wp2_with fail; go_ret; exact ⟨rfl, by (repeat (first | exact Below.refl _ _ | assumption | refine Below.drew ?_ | refine Bl.alloc ?_ _ | refine below_drewN ?_ _ | refine Bl.chain ?_ (by assumption) (Nat.le_refl _)))⟩)
        · have e : (if 10000 < a ∨ 10000 < b ∨ 10000 < c then (2 : Int) else 0) = 0 := if_neg (by omega)
          have i3 : (decide ((10000 : Int) < (c : Int))) = false := by rw [decide_eq_false_iff_not]; omega
          have E := hide e
          clear e
          (go_wp2_with fail; refine Cl.m (fdCheck_calls o0 o1 o2 a b c a b c _) ?_; intro w2 hb2)
          rw [E.out]
          (go_wp2_with fail; go_ret; exact ⟨rfl, by (repeat (first | exact Below.refl _ _ | assumption | refine Below.drew ?_ | refine Bl.alloc ?_ _ | refine below_drewN ?_ _ | refine Bl.chain ?_ (by assumption) (Nat.le_refl _)))⟩)
end Go.Proofs.Ytmkhnofhjbaanaa
