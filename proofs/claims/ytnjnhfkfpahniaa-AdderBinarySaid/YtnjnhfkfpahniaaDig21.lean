/-
  adder.Digits, gannetref21.Digits.
-/
import Derived.Test.YtnjnhfkfpahniaaAdder2
import Derived.Laws.OwnMore
import Derived.OwnWalk
namespace Go.Proofs.Ytnjnhfkfpahniaa
open Go.RowKit Pl

/-- Two decimal digits in a byte. -/
def pk (m : Nat) : Nat := m / 10 * 16 + m % 10
theorem pk_lt (m : Nat) (h : m < 100) : pk m < 256 := by unfold pk; omega
/-- Digits of a number, two by two, the lowest ones first. -/
def dgt (n i : Nat) : Nat := pk (n / 100 ^ i % 100)
def digL (k : Int) : Nat := if k < 0 then 0 else if 10 < k then 10 else k.toNat
theorem digL_le (k : Int) : digL k ≤ 10 := by unfold digL; split <;> (try split) <;> omega
def dgK (n k : Nat) : Nat → Value := fun i => .int .u8 (if i < k then (dgt n i : Int) else 0)
theorem dgK_zero (n c : Nat) : ∀ i, i < c → dgK n 0 i = .int .u8 0 := fun i _ => by unfold dgK; rw [if_neg (by omega)]
theorem dgK_succ (n k c : Nat) : ∀ i, i < c → updv (dgK n k) k (.int .u8 (dgt n k : Int)) i = dgK n (k + 1) i := by
  intro i _
  unfold updv dgK
  by_cases e : i = k
  · subst e; rw [if_pos rfl, if_pos (by omega)]
  · rw [if_neg e]
    by_cases h : i < k
    · rw [if_pos h, if_pos (by omega)]
    · rw [if_neg h, if_neg (by omega)]
theorem pack_dgt (n i : Nat) : packV ((n / 100 ^ i % 100 : Nat) : Int) = .tuple #[.int .u8 (dgt n i : Nat), .int .i64 0] := by
  unfold packV dgt pk
  rw [if_neg (by omega)]
  rfl
theorem infoU8d : (Try.prog.info? 5).map (fun i => (i.zero, i.size, i.bytes)) = some (some (.int .u8 0), 1, 1) := by kernel_rfl

theorem adDigits_calls (n : Nat) (k : Int) (w : World) (hn : n ≤ 18446744073709551615) (_h1 : -9223372036854775808 ≤ k) (_h2 : k ≤ 9223372036854775807) :
    Calls Try.prog 15 #[.int .u64 (n : Int), .int .i64 k] w fun e w' => ∃ a, e = .returned (.slice a (digL k) (digL k)) ∧ NumsAt w' .u8 a (digL k) (fun i => (dgt n i : Int)) ∧ Below w.heap.size w w' := by
  have hkl := digL_le k
  have hmm : min (max k 0) 10 = (digL k : Int) := by unfold digL; split; omega; split <;> omega
  have hk0 : k < 0 → digL k = 0 := fun h => if_pos h
  have hk1 : 10 < k → digL k = 10 := fun h => by unfold digL; rw [if_neg (by omega), if_pos h]
  have hk2 : 0 ≤ k → k ≤ 10 → (digL k : Int) = k := fun h h2 => by unfold digL; rw [if_neg (by omega), if_neg (by omega)]; omega
  obtain ⟨kk, hkk⟩ : ∃ kk, digL k = kk := ⟨_, rfl⟩
  rw [hkk] at hkl hmm hk0 hk1 hk2 ⊢
  clear hkk
  obtain ⟨i0, hi, hz0, hz1, hz2⟩ := info_parts infoU8d
  have hmk := fun c hc W => run_make_arr (P := Try.prog) 28 5 i0 (.int .u8 0) 1 Try.underlying28 hi hz0 hz1 hz2 rfl .i64 .i64 c (show 1 * c ≤ 281474976710656 from Nat.le_trans (Nat.mul_le_mul_left 1 hc) (by decide)) (show c ≤ 9223372036854775807 from Nat.le_trans hc (by decide : 10 ≤ 9223372036854775807)) W
  clear hi hz0 hz1 hz2
  have hm0 : ∀ W, (Instr.makeSlice 28 (.int .i64 0) (.int .i64 0)).run Try.prog W = _ := fun W => hmk 0 (by omega) W
  have hm10 : ∀ W, (Instr.makeSlice 28 (.int .i64 10) (.int .i64 10)).run Try.prog W = _ := fun W => hmk 10 (by omega) W
  have hmkk := fun W => hmk kk (by omega) W
  clear hmk
  go_enter Try.func15, Try.ntmps15
  go_upto_region 1 with fail
  go_cut [5] (fun s5 wx => s5 = .slice (some ⟨w.heap.size, 0, none⟩) kk kk ∧ wx = w.alloc (.cells (arr kk (fun _ => .int .u8 0)) 5))
  case first =>
    by_cases c0 : k < 0
    · have e := hk0 c0
      subst e
      clear hmkk hm10 hk0 hk1 hk2 hmm
      go_wp2_with fail
      go_meet
      exact ⟨rfl, rfl⟩
    · by_cases c1 : 10 < k
      · have e := hk1 c1
        subst e
        clear hmkk hm0 hk0 hk1 hk2 hmm
        go_wp2_with fail
        go_meet
        exact ⟨rfl, rfl⟩
      · have e := hk2 (by omega) (by omega)
        subst e
        clear hm10 hm0 hk0 hk1 hk2 hmm
        go_wp2_with fail
        all_goals
          go_meet
          exact ⟨rfl, rfl⟩
  case rest =>
    obtain ⟨rfl, rfl⟩ := hcut
    clear hmkk hm10 hm0 hk0 hk1 hk2 hmm
    go_wp2_with fail
    go_loopw [0, 13] (fun m i wr => ∃ j : Nat, j ≤ kk ∧ i = .int .i64 (j : Int) ∧ m = .int .u64 ((n / 100 ^ j : Nat) : Int) ∧ wr = w.alloc (.cells (arr kk (dgK n j)) 5)) (fun _ i _ => kk - (intOf i).toNat)
    case atStart => exact ⟨0, Nat.zero_le _, rfl, by simp, by rw [arr_congr (dgK_zero n kk)]⟩
    case round =>
      obtain ⟨j, hj, rfl, rfl, rfl⟩ := hrel
      by_cases hlt : j < kk
      · have hlt' : (j : Int) < (kk : Int) := by omega
        have hpk := pack_dgt n j
        have hm1 : n / 100 ^ (j + 1) = n / 100 ^ j / 100 := by rw [Nat.pow_succ, ← Nat.div_div_eq_div_mul]
        have hm64 : n / 100 ^ j ≤ 18446744073709551615 := Nat.le_trans (Nat.div_le_self _ _) hn
        have hds := dgK_succ n j kk
        generalize n / 100 ^ j = m at *
        generalize dgt n j = d at *
        have hgO := arr_get kk (dgK n j) j (by omega)
        have hsO := fun x => arr_set kk (dgK n j) j x (by omega)
        have hm100 : (m : Int) % 100 = ((m % 100 : Nat) : Int) := by omega
        have Hm100 := hide hm100
        have Hpk := hide hpk
        have Hm1 := hide hm1
        have Hds := hide hds
        clear hpk hm1 hds hm100
        go_wp2_with fail
        rw [Hm100.out]
        refine Cl.p (octPack_calls ((m % 100 : Nat) : Int) _ (by omega) (by omega)) ?_
        rw [Hpk.out]
        go_wp2_with fail
        go_roundw
        case rel => exact ⟨j + 1, by omega, by go_num, by rw [Hm1.out]; go_num, by rw [← arr_congr Hds.out]⟩
        case measure => simp [intOf]; omega
      · obtain rfl : j = kk := by omega
        go_wp2_with fail
        go_ret
        refine ⟨_, rfl, fun i hi => ⟨w.heap.size, 0, rfl, by simp, ?_⟩, (Below.refl _ _).alloc (Nat.le_refl _) _⟩
        rw [Nat.zero_add, (show Blk (w.alloc (.cells (arr j (dgK n j)) 5)) w.heap.size 5 (arr j (dgK n j)) from heap_alloc_new w _).cell i, arr_get j _ i hi]
        unfold dgK
        rw [if_pos hi]

def dgs (n k : Nat) : List Int := (List.range k).map fun i => (dgt n i : Int)
theorem dgs_succ (n k : Nat) : (dgs n (k + 1)).map (Value.int .u8) = (dgs n k).map (Value.int .u8) ++ [.int .u8 (dgt n k : Int)] := by
  unfold dgs
  simp [List.range_succ]
theorem dgs_get (n k i : Nat) (h : i < k) : (dgs n k).getD i 0 = (dgt n i : Int) := by
  unfold dgs
  simp [List.getD, h]

theorem r21Digits_calls (n : Nat) (k : Int) (w : World) (hn : n ≤ 18446744073709551615) (_h1 : -9223372036854775808 ≤ k) (_h2 : k ≤ 9223372036854775807) :
    Calls Try.prog 17 #[.int .u64 (n : Int), .int .i64 k] w fun e w' => ∃ a c, e = .returned (.slice a (digL k) c) ∧ NumsAt w' .u8 a (digL k) (fun i => (dgt n i : Int)) ∧ Below w.heap.size w w' := by
  obtain ⟨i0, hi, hz0, hz1, hz2⟩ := info_parts infoU8d
  have hkl := digL_le k
  have hgo : ∀ j : Nat, j < digL k → (j : Int) < k ∧ (j : Int) < 10 := fun j h => by unfold digL at h; split at h; omega; split at h <;> omega
  have hst : ¬ (digL k : Int) < k ∨ (¬ (digL k : Int) < 10 ∧ (digL k : Int) < k) := by unfold digL; split; omega; split <;> omega
  obtain ⟨kk, hkk⟩ : ∃ kk, digL k = kk := ⟨_, rfl⟩
  rw [hkk] at hkl hgo hst ⊢
  clear hkk
  go_enter Try.func17, Try.ntmps17
  go_wp2_with fail
  go_loopw [0, 5, 6] (fun m v i wr => ∃ j : Nat, j ≤ kk ∧ i = .int .i64 (j : Int) ∧ m = .int .u64 ((n / 100 ^ j : Nat) : Int) ∧ wr.ownsRow w.heap.size 5 1 v j ((dgs n j).map (Value.int .u8)) ∧ Below w.heap.size w wr) (fun _ _ i _ => kk - (intOf i).toNat)
  case atStart => exact ⟨0, Nat.zero_le _, rfl, by simp, World.ownsRow_lit w #[] 0 (Nat.le_refl _) (by decide) rfl, by (repeat (first | exact Below.refl _ _ | assumption | refine Below.drew ?_ | refine Bl.alloc ?_ _ | refine below_drewN ?_ _ | refine Bl.chain ?_ (by assumption) (Nat.le_refl _)))⟩
  case round =>
    obtain ⟨j, hj, rfl, rfl, hown, hbel⟩ := hrel
    by_cases hlt : j < kk
    · obtain ⟨hg1, hg2⟩ := hgo j hlt
      have hdg : dgt n j = n / 100 ^ j % 10 + n / 100 ^ j / 10 % 10 * 16 := by unfold dgt pk; omega
      have hm1 : n / 100 ^ (j + 1) = n / 100 ^ j / 100 := by rw [Nat.pow_succ, ← Nat.div_div_eq_div_mul]
      have hm64 : n / 100 ^ j ≤ 18446744073709551615 := Nat.le_trans (Nat.div_le_self _ _) hn
      have hds := dgs_succ n j
      generalize n / 100 ^ j = m at *
      generalize dgt n j = d at *
      have hd : (m : Int) % 10 + (m : Int) / 10 % 10 * 16 = (d : Int) := by omega
      have hd256 : d < 256 := by omega
      have Hm1 := hide hm1
      have Hds := hide hds
      have hbz := hbel.size
      clear hdg hm1 hds hgo hst
      go_wp2_with (at_builtin; refine wpList_append_own _ rfl _ _ 28 rfl w.heap.size 5 i0 (.int .u8 0) 1 1 Try.underlying28 hi hz0 hz1 hz2 rfl (by decide) _ _ _ rfl (hown.alloc _) _ 1 1 [.int .u8 (d : Int)] rfl rfl ?c1 ?c2 ?c3 ?c4 ?c5 ?_)
      case c1 => exact one_new_at _ _ _ _ rfl
      case c2 => exact one_int _ _
      case c3 => unfold maxLen; omega
      case c4 => omega
      case c5 => simp; omega
      intro v1 w1 hown1 hgrow1 _
      have hb1 := (Bl.alloc hbel _).grown hgrow1 (by simp; omega) (fun k hk => by have := (hown.lt k hk).1; omega)
      go_wp2_with fail
      go_roundw
      case rel => exact ⟨j + 1, by omega, by go_num, by rw [Hm1.out]; go_num, by rw [Hds.out]; exact hown1, hb1⟩
      case measure => simp [intOf]; omega
    · obtain rfl : j = kk := by omega
      obtain ⟨b, c, rfl, hnums⟩ := nums_of_own hown
      have hnums' : NumsAt wr .u8 b j (fun i => (dgt n i : Int)) := fun i hi => by
        have := hnums i hi
        dsimp only at this ⊢
        rwa [dgs_get n j i hi] at this
      rcases hst with h | ⟨h, h'⟩
      · go_wp2_with fail
        go_ret
        first | exact ⟨_, _, rfl, hnums', hbel⟩ | exact ⟨_, ⟨_, rfl⟩, hnums', hbel⟩
      · go_wp2_with fail
        go_ret
        first | exact ⟨_, _, rfl, hnums', hbel⟩ | exact ⟨_, ⟨_, rfl⟩, hnums', hbel⟩
end Go.Proofs.Ytnjnhfkfpahniaa
