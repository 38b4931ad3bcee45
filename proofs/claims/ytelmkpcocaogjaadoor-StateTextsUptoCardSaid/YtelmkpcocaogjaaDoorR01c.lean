/-
  gannetref01: digits, Hex, FromHex.
-/
import Derived.Test.YtelmkpcocaogjaaDoorTac
import Derived.Test.YtelmkpcocaogjaaDoorOdig
namespace Go.Proofs.YtelmkpcocaogjaaDoor
open Go.RowKit Pl

theorem digT_size : ((ByteArray.mk #[48, 49, 50, 51, 52, 53, 54, 55, 56, 57, 65, 66, 67, 68, 69, 70])).size = 16 := rfl
theorem digT_at : ∀ k, k < 16 → ((ByteArray.mk #[48, 49, 50, 51, 52, 53, 54, 55, 56, 57, 65, 66, 67, 68, 69, 70])).toList[k]? = some (hexC k) := by
  have : ((ByteArray.mk #[48, 49, 50, 51, 52, 53, 54, 55, 56, 57, 65, 66, 67, 68, 69, 70])).toList = [48, 49, 50, 51, 52, 53, 54, 55, 56, 57, 65, 66, 67, 68, 69, 70] := ByteArray.toList_mk _
  rw [this]
  decide
theorem digT_get : ∀ k, k < 16 → ∀ h : k < ((ByteArray.mk #[48, 49, 50, 51, 52, 53, 54, 55, 56, 57, 65, 66, 67, 68, 69, 70])).size, (((ByteArray.mk #[48, 49, 50, 51, 52, 53, 54, 55, 56, 57, 65, 66, 67, 68, 69, 70]))[k]'h) = hexC k := by decide
theorem digT_cut : ∀ k, k < 16 → ((ByteArray.mk #[48, 49, 50, 51, 52, 53, 54, 55, 56, 57, 65, 66, 67, 68, 69, 70])).extract k (k + 1) = ⟨#[hexC k]⟩ := by decide

theorem refDigits_calls (w : World) : Calls Tryd.prog 57 #[] w fun e w' => e = .returned (.string (ByteArray.mk #[48, 49, 50, 51, 52, 53, 54, 55, 56, 57, 65, 66, 67, 68, 69, 70])) ∧ w = w' := by
  go_enter Tryd.func57, Tryd.ntmps57
  go_wp2
  go_ret
  exact ⟨rfl, rfl⟩

theorem hexT_succ (n i : Nat) : hexT n (i + 1) = hexC (n / 16 ^ i % 16) :: hexT n i := rfl
theorem refHex_calls (n : Nat) (k : Int) (w : World) (hn : n < 4294967296) (_h1 : -9223372036854775808 ≤ k) (_h2 : k ≤ 9223372036854775807) :
    Calls Tryd.prog 37 #[.int .u32 (n : Int), .int .i64 k] w fun e w' => e = .returned (.string ⟨(hexT n (clampK k)).toArray⟩) ∧ w = w' := by
  have hck := clampK_le k
  go_enter Tryd.func37, Tryd.ntmps37
  go_upto_if 9 with fail
  go_cut [1] (fun s1 wx => s1 = .int .i64 (if k < 1 then 1 else k) ∧ w = wx)
  case first =>
    by_cases h : k < 1
    · go_wp2_with fail
      go_meet
      exact ⟨by rw [if_pos h], rfl⟩
    · go_wp2_with fail
      go_meet
      exact ⟨by rw [if_neg (by omega)], rfl⟩
  case rest =>
    obtain ⟨rfl, rfl⟩ := hcut
    obtain ⟨q, hq⟩ : ∃ q, (if k < 1 then (1 : Int) else k) = q := ⟨_, rfl⟩
    rw [hq]
    have hqk : (q ≤ 8 → (clampK k : Int) = q) ∧ (8 < q → clampK k = 8) := by unfold clampK; rw [← hq]; constructor <;> intro h <;> split at h <;> (repeat' split) <;> omega
    clear hq
    go_upto_if 11 with fail
    go_cut [1] (fun s1 wx => s1 = .int .i64 (clampK k : Nat) ∧ w = wx)
    case first =>
      by_cases h : 8 < q
      · have h2 := hqk.2 h
        go_wp2_with fail
        go_meet
        exact ⟨by rw [h2]; rfl, rfl⟩
      · have h2 := hqk.1 (by omega)
        go_wp2_with fail
        go_meet
        exact ⟨by rw [h2], rfl⟩
    case rest =>
    obtain ⟨rfl, rfl⟩ := hcut
    obtain ⟨kk, hkk⟩ : ∃ kk, clampK k = kk := ⟨_, rfl⟩
    rw [hkk] at hck ⊢
    have Hkk := hide hkk
    clear hkk
    obtain ⟨hk1, hk8⟩ := hck
    go_wp2_with fail
    go_loop [0, 5, 6] (fun m t i => ∃ j : Nat, j ≤ kk ∧ i = .int .i64 (j : Int) ∧ m = .int .u32 ((n / 16 ^ j : Nat) : Int) ∧ t = .string ⟨(hexT n j).toArray⟩) (fun _ _ i => kk - (intOf i).toNat)
    case atStart => exact ⟨0, Nat.zero_le _, rfl, by simp, rfl⟩
    case round =>
      obtain ⟨j, hj, rfl, rfl, rfl⟩ := hrel
      by_cases hlt : j < kk
      · have hlt' : (j : Int) < (kk : Int) := by omega
        have hx : ∀ m : Nat, m = n / 16 ^ j → m < 4294967296 := fun m hm => by rw [hm]; exact Nat.lt_of_le_of_lt (Nat.div_le_self _ _) hn
        obtain ⟨m, hm⟩ : ∃ m, n / 16 ^ j = m := ⟨_, rfl⟩
        have hm32 := hx m hm.symm
        have hm1 : n / 16 ^ (j + 1) = m / 16 := by rw [Nat.pow_succ, ← Nat.div_div_eq_div_mul, hm]
        have hcut := digT_cut (m % 16) (Nat.mod_lt _ (by omega))
        have Hcut := hide hcut
        have hts : hexT n (j + 1) = hexC (m % 16) :: hexT n j := by rw [hexT_succ, hm]
        rw [hm]
        have Hts := hide hts
        have Hm := hide hm
        have Hm1 := hide hm1
        have hz : (hexT n j).length ≤ 8 := by rw [hexT_len]; omega
        clear hcut hx hm hm1 hts
        (go_wp2_with fail; refine Cl.p (refDigits_calls _) ?_)
        go_wp2_with fail
        go_round
        case rel => exact ⟨j + 1, by omega, by go_num, by rw [Hm1.out]; go_num, by rw [Hts.out, Hcut.out]; exact congrArg Value.string (by apply ByteArray.ext; simp)⟩
        case measure => simp [intOf]; omega
      · obtain rfl : j = kk := by omega
        go_wp2_with fail
        go_ret
        exact ⟨by rw [Hkk.out]; rfl, rfl⟩

/-- The digit's value, as far as was looked. -/
def dk (c : UInt8) (k : Nat) : Int := match hv c with
  | some d => if d < k then (d : Int) else -1
  | none => -1
theorem dk_hit (c : UInt8) (k : Nat) (hk : k < 16) (h : (hexC k).toNat = c.toNat) : dk c (k + 1) = k := by
  have : hexC k = c := UInt8.toNat_inj.1 h
  subst this
  unfold dk
  rw [hv_hexC k hk]
  simp
theorem dk_miss (c : UInt8) (k : Nat) (h : ¬ (hexC k).toNat = c.toNat) : dk c (k + 1) = dk c k := by
  unfold dk
  cases hc : hv c with
  | none => rfl
  | some d =>
    have h1 := hexC_hv hc
    have : d ≠ k := by rintro rfl; exact h (by rw [h1])
    dsimp only
    split <;> split <;> omega
theorem dk_zero (c : UInt8) : dk c 0 = -1 := by unfold dk; split <;> simp
theorem dk_bound (c : UInt8) (k : Nat) : -1 ≤ dk c k ∧ dk c k < 16 := by
  unfold dk
  cases hc : hv c with
  | none => simp
  | some d => have := hv_lt hc; dsimp only; split <;> omega

theorem refFromHex_calls (s : ByteArray) (w : World) (hs : s.size ≤ maxLen) :
    Calls Tryd.prog 55 #[.string s] w fun e w' => e = .returned (fhV (fh s.toList)) ∧ ∃ n, w' = w.drewN n := by
  unfold maxLen at hs
  have hsl := str_len s
  by_cases h0 : s.toList = []
  · have hr : fh s.toList = (0, 4) := by unfold fh; rw [if_pos h0]
    have Hr := hide hr; clear hr
    have h0' : (s.size : Int) = 0 := by rw [h0] at hsl; simp at hsl; omega
    have H0 := hide h0; clear h0 hsl
    go_enter Tryd.func55, Tryd.ntmps55
    go_wp2
    go_ret2
    exact ⟨by rw [Hr.out]; rfl, 0, rfl⟩
  · have h0' : ¬ (s.size : Int) = 0 := by intro h; apply h0; have : s.toList.length = 0 := by omega
                                          exact List.length_eq_zero_iff.1 this
    have H0 := hide h0; clear h0
    by_cases h8 : 8 < s.size
    · have hr : fh s.toList = (0, 2) := by unfold fh; rw [if_neg H0.out, if_pos (by omega)]
      have Hr := hide hr; clear hr hsl
      go_enter Tryd.func55, Tryd.ntmps55
      go_wp2
      go_ret2
      exact ⟨by rw [Hr.out]; rfl, 0, rfl⟩
    · have hr1 : ∀ n, hfold s.toList 0 = some n → fh s.toList = (n, 0) := fun n h => by unfold fh; rw [if_neg H0.out, if_neg (by omega), h]
      have hr2 : hfold s.toList 0 = none → fh s.toList = (0, 3) := fun h => by unfold fh; rw [if_neg H0.out, if_neg (by omega), h]
      have Hr1 := hide hr1
      have Hr2 := hide hr2
      clear hr1 hr2
      have Hsl := hide hsl; clear hsl
      go_enter Tryd.func55, Tryd.ntmps55
      go_wp2_with fail
      go_loopw [4, 5] (fun a i wr => ∃ (k n q : Nat), k ≤ s.size ∧ i = .int .i64 (k : Int) ∧ a = .int .u32 (n : Int) ∧ n < 16 ^ k ∧ hfold (s.toList.take k) 0 = some n ∧ wr = w.drewN q) (fun _ i _ => s.size - (intOf i).toNat)
      case atStart => exact ⟨0, 0, 0, by omega, rfl, rfl, by simp, by simp [hfold], rfl⟩
      case round =>
        obtain ⟨k, n, q, hk, rfl, rfl, hn, he, rfl⟩ := hrel
        have He := hide he; clear he
        have h28 : 16 ^ k ≤ 16 ^ 8 := Nat.pow_le_pow_right (by omega) (by omega)
        have hn32 : n < 4294967296 := by omega
        have Hn := hide hn
        clear hn h28
        by_cases hlt : k < s.size
        · have hlt' : (k : Int) < (s.size : Int) := by omega
          have hat := str_at' s k hlt
          have htk := hfold_take s.toList 0 k s[k] hat n He.out
          obtain ⟨c, hc⟩ : ∃ c, s[k] = c := ⟨_, rfl⟩
          rw [hc] at htk
          have Htk := hide htk
          clear htk
          have hc := hide hc
          have hnk : n < 268435456 := by
            have h1 := Hn.out
            have h7 : 16 ^ k ≤ 16 ^ 7 := Nat.pow_le_pow_right (by omega) (by omega)
            omega
          go_wp2_with fail
          go_loopw [6, 7] (fun d i wr => ∃ (m q : Nat), m ≤ 16 ∧ i = .int .i64 (m : Int) ∧ d = .int .i64 (dk c m) ∧ wr = w.drewN q) (fun _ i _ => 16 - (intOf i).toNat)
          case atStart => exact ⟨0, q, by omega, rfl, by rw [dk_zero], rfl⟩
          case round =>
            obtain ⟨m, q, hm, rfl, rfl, rfl⟩ := hrel
            by_cases hlm : m < 16
            · have hlm' : (m : Int) < 16 := by omega
              have hms : m < ((ByteArray.mk #[48, 49, 50, 51, 52, 53, 54, 55, 56, 57, 65, 66, 67, 68, 69, 70])).size := hlm
              have hdt := digT_get m hlm hms
              by_cases heq : (hexC m).toNat = c.toNat
              · have heq' : (((((ByteArray.mk #[48, 49, 50, 51, 52, 53, 54, 55, 56, 57, 65, 66, 67, 68, 69, 70]))[m]'hms).toNat : Int) == (s[k].toNat : Int)) = true := by rw [hdt, heq, hc.out]; exact beq_self_eq_true _
                have hdk := dk_hit c m hlm heq
                have Hdk := hide hdk
                clear hdk
                go_wp2_with fail
                go_quiet ((go_at_call 57; first | exact quiet_left (refDigits_calls _) | exact quiet_add_left (refDigits_calls _)))
                go_wp2_with fail
                go_roundw
                case rel => exact ⟨m + 1, _, by omega, by go_num, by rw [Hdk.out], rfl⟩
                case measure => simp [intOf]; omega
              · have heq' : (((((ByteArray.mk #[48, 49, 50, 51, 52, 53, 54, 55, 56, 57, 65, 66, 67, 68, 69, 70]))[m]'hms).toNat : Int) == (s[k].toNat : Int)) = false := by rw [hdt, hc.out, beq_eq_false_iff_ne]; omega
                have hdk := dk_miss c m heq
                have Hdk := hide hdk
                clear hdk
                go_wp2_with fail
                go_quiet ((go_at_call 57; first | exact quiet_left (refDigits_calls _) | exact quiet_add_left (refDigits_calls _)))
                go_wp2_with fail
                go_roundw
                case rel => exact ⟨m + 1, _, by omega, by go_num, by rw [Hdk.out], rfl⟩
                case measure => simp [intOf]; omega
            · obtain rfl : m = 16 := by omega
              cases hvk : hv c with
              | none =>
                have hnone : hfold s.toList 0 = none := hfold_none _ _ (k + 1) (by rw [Htk.out, hvk]; rfl)
                have Hnone := hide hnone
                have hd1 : dk c 16 = -1 := by unfold dk; rw [hvk]
                rw [hd1]
                clear hnone hvk hd1
                go_wp2_with fail
                go_ret2
                exact ⟨by rw [Hr2.out Hnone.out]; rfl, q, rfl⟩
              | some d =>
                have hd := hv_lt hvk
                have hsome : hfold (s.toList.take (k + 1)) 0 = some (n * 16 + d) := by rw [Htk.out, hvk]; rfl
                have Hsome := hide hsome
                have hd1 : dk c 16 = (d : Int) := by unfold dk; rw [hvk]; dsimp only; rw [if_pos hd]
                rw [hd1]
                clear hsome hvk hd1
                go_wp2_with fail
                go_roundw
                case rel => exact ⟨k + 1, n * 16 + d, q, by omega, by go_num, by go_num, by have := Hn.out; rw [Nat.pow_succ]; omega, Hsome.out, rfl⟩
                case measure => simp [intOf]; omega
        · obtain rfl : k = s.size := by omega
          have hall : fh s.toList = (n, 0) := Hr1.out n (by have := He.out; rwa [List.take_of_length_le (by rw [str_len]; exact Nat.le_refl _)] at this)
          have Hall := hide hall
          clear hall
          go_wp2_with fail
          go_ret2
          exact ⟨by rw [Hall.out]; rfl, q, rfl⟩
end Go.Proofs.YtelmkpcocaogjaaDoor
