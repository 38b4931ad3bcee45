/-
  Package octet: Pack, Unpack, digits, value, FromHex, Hex.
-/
import Derived.Test.YtlojabeeonhceaaDoorCore
import Derived.Test.YtlojabeeonhceaaDoorMake
import Derived.Test.YtlojabeeonhceaaDoorBhex
import Derived.Laws.IdiomStrings
import Derived.Deep.DeepCutAuto
namespace Go.Proofs.YtlojabeeonhceaaDoor
set_option linter.unusedSimpArgs false
set_option linter.unusedVariables false
set_option maxRecDepth 10000
open Go.RowKit Pl

theorem ret_ints {k l : IntKind} {a a' b b' : Int} (h : a = a') (h2 : b = b') : Ending.returned (.tuple #[.int k a, .int l b]) = .returned (.tuple #[.int k a', .int l b']) := by rw [h, h2]
theorem str_at' (s : ByteArray) (k : Nat) (h : k < s.size) : s.toList[k]? = some s[k] := by
  rw [ByteArray.toList_eq, List.getElem?_eq_getElem (by simpa using h)]
  rfl
theorem str_len (s : ByteArray) : s.toList.length = s.size := by rw [ByteArray.toList_eq]; simp

/-- What packing, and unpacking, answer. -/
def packV (n : Int) : Value := if n < 0 ∨ 99 < n then .tuple #[.int .u8 0, .int .i64 1] else .tuple #[.int .u8 (n / 10 * 16 + n % 10), .int .i64 0]
def unpackV (b : Nat) : Value := if 9 < b / 16 ∨ 9 < b % 16 then .tuple #[.int .i64 0, .int .i64 3] else .tuple #[.int .i64 (((b / 16 * 10 + b % 16 : Nat)) : Int), .int .i64 0]
def valueV (c : UInt8) : Value := match hv c with | some d => .tuple #[.int .u32 (d : Int), .bool true] | none => .tuple #[.int .u32 0, .bool false]





def digK (k : Nat) : Nat → Value := fun i => .int .u8 (if i < k then ((hexC i).toNat : Int) else 0)
theorem digK_succ (k : Nat) : ∀ i, i < 16 → updv (digK k) k (.int .u8 ((hexC k).toNat : Int)) i = digK (k + 1) i := by
  intro i _
  unfold updv digK
  by_cases e : i = k
  · subst e
    rw [if_pos rfl, if_pos (by omega)]
  · rw [if_neg e]
    by_cases h1 : i < k
    · rw [if_pos h1, if_pos (by omega)]
    · rw [if_neg h1, if_neg (by omega)]
theorem digK_succ2 (k : Nat) (x : Value) : ∀ i, i < 16 → updv (updv (digK k) k x) k (.int .u8 ((hexC k).toNat : Int)) i = digK (k + 1) i := by
  intro i hi
  rw [← digK_succ k i hi]
  unfold updv
  split <;> rfl

theorem octDigits_calls (w : World) :
    Calls Tryd.prog 16 #[] w fun e w' => e = .returned (.agg (arr 16 (digK 16))) ∧ Below w.heap.size w w' := by
  go_enter Tryd.func16, Tryd.ntmps16
  go_wp2_with fail
  go_loopw [3] (fun i wr => ∃ k : Nat, k ≤ 16 ∧ i = .int .i64 (k : Int) ∧ wr = (w.alloc (.cells (arr 16 (digK 0)) 43)).alloc (.cells (arr 16 (digK k)) 43)) (fun i _ => 16 - (intOf i).toNat)
  case atStart => exact ⟨0, Nat.zero_le _, rfl, rfl⟩
  case round =>
    obtain ⟨k, hk, rfl, rfl⟩ := hrel
    by_cases hlt : k < 16
    · have hlt' : (k : Int) < 16 := by omega
      have hg := arr_get 16 (digK k) k hlt
      have hs := fun x => arr_set 16 (digK k) k x hlt
      have hg2 := fun x => arr_get 16 (updv (digK k) k x) k hlt
      have hs2 := fun x y => arr_set 16 (updv (digK k) k x) k y hlt
      have hx := hexC_toNat k hlt
      have Hx := hide hx; clear hx
      by_cases h10 : k < 10
      · have h10' : (k : Int) < 10 := by omega
        go_wp2_with fail
        go_roundw
        case rel => exact ⟨k + 1, by omega, by go_num, by rw [← arr_congr (digK_succ k), Hx.out, if_pos h10]; congr 4; try omega⟩
        case measure => simp [intOf]; omega
      · have h10' : ¬ (k : Int) < 10 := by omega
        go_wp2_with fail
        go_roundw
        case rel => exact ⟨k + 1, by omega, by go_num, by rw [← arr_congr (digK_succ2 k _), Hx.out, if_neg h10, show (65 : Int) + k - 10 = ((55 + k : Nat) : Int) from by omega]⟩
        case measure => simp [intOf]; omega
    · obtain rfl : k = 16 := by omega
      have h1 : Blk ((w.alloc (.cells (arr 16 (digK 0)) 43)).alloc (.cells (arr 16 (digK 16)) 43)) (w.heap.size + 1) 43 (arr 16 (digK 16)) := heap_alloc2_new w _ _
      have h0 : Blk ((w.alloc (.cells (arr 16 (digK 0)) 43)).alloc (.cells (arr 16 (digK 16)) 43)) w.heap.size 43 (arr 16 (digK 0)) := heap_alloc2_old w _ _
      have hb2 : Below w.heap.size w ((w.alloc (.cells (arr 16 (digK 0)) 43)).alloc (.cells (arr 16 (digK 16)) 43)) := ((Below.refl _ _).alloc (Nat.le_refl _) _).alloc (by simp) _
      generalize (w.alloc _).alloc _ = wx at h1 h0 hb2 ⊢
      go_wp2_with (first
        | (refine wpList_load_row rfl 43 _ rfl (w.heap.size + 1) rfl 43 _ (0, 0) _ h1 Tryd.underlying43 rfl (by kernel_rfl) ?_)
        | (refine wpList_store_row rfl 43 _ _ rfl w.heap.size (arr 16 (digK 16)) rfl rfl 43 _ h0 (by kernel_rfl) rfl (by kernel_rfl) ?_))
      refine bodyPost_ret (results_cell_row rfl _ _ w.heap.size 43 (arr 16 (digK 16)) (0, 0) _ rfl (setRow_heap _ _ _ _ _ _ h0) Tryd.underlying43 rfl (by kernel_rfl)) rfl ⟨rfl, ?_⟩
      exact below_setRow hb2 (Nat.le_refl _) _

/-- So many digits: from 1 to 8. -/
def clampK (k : Int) : Nat := if k < 1 then 1 else if 8 < k then 8 else k.toNat
theorem clampK_of (k : Int) : (k < 1 → clampK k = 1) ∧ (8 < k → clampK k = 8) ∧ (1 ≤ k → k ≤ 8 → (clampK k : Int) = k) := by unfold clampK; refine ⟨fun h => ?_, fun h => ?_, fun h h2 => ?_⟩ <;> split <;> (try split) <;> omega
theorem clampK_le (k : Int) : 1 ≤ clampK k ∧ clampK k ≤ 8 := by unfold clampK; split; omega; split <;> omega
def outK (n kk i : Nat) : Nat → Value := fun j => .int .u8 (if kk - 1 - j < i ∧ j < kk then ((hexC (n / 16 ^ (kk - 1 - j) % 16)).toNat : Int) else 0)

theorem outK_zero (n kk : Nat) : ∀ j, j < kk → outK n kk 0 j = .int .u8 0 := by
  intro j _
  unfold outK
  rw [if_neg (by omega)]
theorem outK_succ (n kk j : Nat) (hj : j < kk) : ∀ i, i < kk → updv (outK n kk j) (kk - 1 - j) (.int .u8 ((hexC (n / 16 ^ j % 16)).toNat : Int)) i = outK n kk (j + 1) i := by
  intro i hi
  unfold updv outK
  by_cases e : i = kk - 1 - j
  · subst e
    rw [if_pos rfl, if_pos (by omega), show kk - 1 - (kk - 1 - j) = j from by omega]
  · rw [if_neg e]
    by_cases h1 : kk - 1 - i < j
    · rw [if_pos ⟨h1, hi⟩, if_pos (by omega)]
    · rw [if_neg (by omega), if_neg (by omega)]
theorem pow16 (j : Nat) : (2 : Int) ^ (4 * j) = ((16 ^ j : Nat) : Int) := by
  rw [Int.pow_mul]
  simp
theorem infoU8' : (Tryd.prog.info? 5).map (fun i => (i.zero, i.size, i.bytes)) = some (some (.int .u8 0), 1, 1) := by kernel_rfl

theorem octHex_calls (n : Nat) (k : Int) (w : World) (hn : n < 4294967296) (_h1 : -9223372036854775808 ≤ k) (_h2 : k ≤ 9223372036854775807) :
    Calls Tryd.prog 8 #[.int .u32 (n : Int), .int .i64 k] w fun e w' => e = .returned (.string ⟨(hexT n (clampK k)).toArray⟩) ∧ Below w.heap.size w w' := by
  have hck := clampK_le k
  have hmm : min (max k 1) 8 = (clampK k : Int) := by unfold clampK; split; omega; split <;> omega
  go_enter Tryd.func8, Tryd.ntmps8
  go_upto_region 1 with fail
  go_cut [1] (fun s1 wx => s1 = .int .i64 (clampK k : Nat) ∧ w = wx)
  case first =>
    go_wp2_with fail
    all_goals
      go_meet
      refine ⟨?_, rfl⟩
      have hk := clampK_of k
      congr 1
      omega
  case rest =>
    obtain ⟨rfl, rfl⟩ := hcut
    obtain ⟨kk, hkk⟩ : ∃ kk, clampK k = kk := ⟨_, rfl⟩
    rw [hkk] at hck ⊢
    have Hkk := hide hkk
    clear hkk hmm
    obtain ⟨hk1, hk8⟩ := hck
    go_wp2_with fail
    refine (octDigits_calls _).mono ?_
    rintro e w1 ⟨rfl, hb1⟩
    have hz : Blk (w1.alloc (.cells (arr 16 (digK 0)) 43)) w1.heap.size 43 (arr 16 (digK 0)) := Blk.new _ _ _
    obtain ⟨i0, hi, hz0, hz1, hz2⟩ := info_parts infoU8'
    have hmk := fun W => run_make_arr (P := Tryd.prog) 22 5 i0 (.int .u8 0) 1 Tryd.underlying22 hi hz0 hz1 hz2 rfl .i64 .i64 kk (by omega) (by omega) W
    clear hi hz0 hz1 hz2
    go_wp2_with (refine wpList_store_row rfl 43 _ _ rfl w1.heap.size (arr 16 (digK 16)) rfl rfl 43 _ hz (by kernel_rfl) rfl (by kernel_rfl) ?_; rw [setRow_new])
    clear hmk hz
    go_loopw [16] (fun i wr => ∃ j : Nat, j ≤ kk ∧ i = .int .i64 (j : Int) ∧ wr = (w1.alloc (.cells (arr 16 (digK 16)) 43)).alloc (.cells (arr kk (outK n kk j)) 5)) (fun i _ => kk - (intOf i).toNat)
    case atStart => exact ⟨0, Nat.zero_le _, rfl, by rw [arr_congr (outK_zero n kk)]⟩
    case round =>
      obtain ⟨j, hj, rfl, rfl⟩ := hrel
      by_cases hlt : j < kk
      · have hlt' : (j : Int) < (kk : Int) := by omega
        have hd16 : n / 16 ^ j % 16 < 16 := Nat.mod_lt _ (by omega)
        have hand : bits .and .u32 ((n : Int) / 2 ^ (4 * j)) 15 = ((n / 16 ^ j % 16 : Nat) : Int) := by
          rw [pow16 j]
          have h := u32_and_nat (n / 16 ^ j) 15 (Nat.lt_of_le_of_lt (Nat.div_le_self _ _) hn) (by omega)
          rw [show (15 : Nat) = 2 ^ 4 - 1 from rfl, Nat.and_two_pow_sub_one_eq_mod] at h
          rw [show ((15 : Int)) = ((2 ^ 4 - 1 : Nat) : Int) from rfl]
          rw [← Int.natCast_ediv, h]
        obtain ⟨d, hd⟩ : ∃ d, n / 16 ^ j % 16 = d := ⟨_, rfl⟩
        rw [hd] at hand hd16
        have Hd := hide hd
        clear hd
        have hgD := arr_get 16 (digK 16) d hd16
        rw [show digK 16 d = .int .u8 ((hexC d).toNat : Int) from by unfold digK; rw [if_pos hd16]] at hgD
        have hgO := arr_get kk (outK n kk j) (kk - 1 - j) (by omega)
        have hsO := fun x => arr_set kk (outK n kk j) (kk - 1 - j) x (by omega)
        go_wp2_with fail
        go_roundw
        case rel => exact ⟨j + 1, by omega, by go_num, by rw [← arr_congr (outK_succ n kk j hlt), Hd.out]⟩
        case measure => simp [intOf]; omega
      · obtain rfl : j = kk := by omega
        have hconv : (convert 22 9 (.slice (some ⟨w1.heap.size + 1, 0, none⟩) j j)).run Tryd.prog ((w1.alloc (.cells (arr 16 (digK 16)) 43)).alloc (.cells (arr j (outK n j j)) 5)) = .ok (.string ⟨(hexT n j).toArray⟩) ((w1.alloc (.cells (arr 16 (digK 16)) 43)).alloc (.cells (arr j (outK n j j)) 5)) := by
          have h := run_convert_bytes_back (P := Tryd.prog) ((w1.alloc (.cells (arr 16 (digK 16)) 43)).alloc (.cells (arr j (outK n j j)) 5)) 22 9 5 ⟨w1.heap.size + 1, 0, none⟩ j (hexT n j) Tryd.underlying22 Tryd.underlying5 Tryd.underlying9 (fun q hq => by
            have hq' : q < j := by rwa [hexT_len] at hq
            rw [show ((⟨w1.heap.size + 1, 0, none⟩ : Addr).add q) = ⟨w1.heap.size + 1, q, none⟩ from by unfold Addr.add; split <;> simp_all]
            rw [(show Blk ((w1.alloc (.cells (arr 16 (digK 16)) 43)).alloc (.cells (arr j (outK n j j)) 5)) (w1.heap.size + 1) 5 (arr j (outK n j j)) from heap_alloc2_new w1 _ _).cell q, arr_get j _ q hq']
            have he := hexT_get n j (j - 1 - q) (by omega)
            rw [show j - 1 - (j - 1 - q) = q from by omega, List.getElem?_eq_getElem hq] at he
            injection he with he
            rw [he]
            unfold outK
            rw [if_pos (by omega)])
          rwa [hexT_len] at h
        go_wp2_with fail
        go_ret
        exact ⟨by rw [Hkk.out]; rfl, (hb1.alloc hb1.size _).alloc (by have := hb1.size; simp; omega) _⟩
end Go.Proofs.YtlojabeeonhceaaDoor
