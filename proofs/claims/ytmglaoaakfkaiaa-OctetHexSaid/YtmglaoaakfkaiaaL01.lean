/-
  gannetlaw01: live, and the walks of the laws.
-/
import Derived.Test.YtmglaoaakfkaiaaTac
import Derived.Test.YtmglaoaakfkaiaaObit
import Derived.Test.YtmglaoaakfkaiaaR01b
import Derived.Test.YtmglaoaakfkaiaaR01c
import Derived.Test.YtmglaoaakfkaiaaOpen
namespace Go.Proofs.Ytmglaoaakfkaiaa
open Go.RowKit Pl

theorem hexText (n k : Nat) (l : List UInt8) (h : hexT n k = l) : (⟨(hexT n k).toArray⟩ : ByteArray) = ⟨l.toArray⟩ := by rw [h]
theorem live01_calls (w : World) : Calls Try.prog 9 #[] w fun e w' => e = .returned (.bool true) ∧ Below w.heap.size w w' := by
  have l1 : lft 129 false = 2 := by decide
  have l2 : tb 129 7 = true := by decide
  have l3 : rgt 129 true = 192 := by decide
  have l4 : tb 129 0 = true := by decide
  have l5 : packV 42 = .tuple #[.int .u8 66, .int .i64 0] := by unfold packV; rw [if_neg (by omega)]; rfl
  have l6 : unpackV 74 = .tuple #[.int .i64 0, .int .i64 3] := by unfold unpackV; rw [if_pos (by omega)]
  have l7 : fh (ByteArray.mk #[49, 70, 70, 52, 48, 50]).toList = (2094082, 0) := by rw [ByteArray.toList_mk]; decide
  have l8 : hexT 2094082 (clampK 6) = [49, 70, 70, 52, 48, 50] := by decide
  have l9 : tb 4 2 = true := by decide
  have l10 : wth 0 7 true = 128 := by decide
  have l11 : sgn 255 = -1 := by decide
  have l12 : cnt 7 = 3 := by decide
  have l13 : fst 12 = 2 := by decide
  go_enter Try.func9, Try.ntmps9
  (go_wp2_with fail; refine Cl.p (octLeft_calls 129 false _ (by omega)) ?_)
  rw [l1, l2]
  (go_wp2_with fail; refine Cl.p (octRight_calls 129 true _ (by omega)) ?_)
  rw [l3, l4]
  (go_wp2_with fail; refine Cl.p (octPack_calls 42 _ (by omega) (by omega)) ?_)
  rw [l5]
  (go_wp2_with fail; refine Cl.p (octUnpack_calls 74 _ (by omega)) ?_)
  rw [l6]
  (go_wp2_with fail; refine Cl.p (octFromHex_calls _ _ (by decide)) ?_)
  rw [l7]
  unfold fhV
  (go_wp2_with fail; refine Cl.m (octHex_calls 2094082 6 _ (by omega) (by omega) (by omega)) ?_; intro w1 hb1)
  rw [l8]
  (go_wp2_with fail; refine Cl.p (octBit_calls 4 2 _ (by omega)) ?_)
  rw [l9]
  (go_wp2_with fail; refine Cl.p (octWith_calls 0 7 true _ (by omega)) ?_)
  rw [l10]
  (go_wp2_with fail; refine Cl.p (octWord_calls 1 2 _ (by omega) (by omega)) ?_)
  (go_wp2_with fail; refine Cl.p (octLo_calls 513 _ (by omega)) ?_)
  (go_wp2_with fail; refine Cl.p (octHi_calls 513 _ (by omega)) ?_)
  (go_wp2_with fail; refine Cl.p (octSigned_calls 255 _ (by omega)) ?_)
  rw [l11]
  (go_wp2_with fail; refine Cl.p (octCount_calls 7 _ (by omega)) ?_)
  rw [l12]
  (go_wp2_with fail; refine Cl.p (octFirst_calls 12 _ (by omega)) ?_)
  rw [l13]
  (go_wp2_with fail; go_ret; exact ⟨rfl, by (repeat (first | exact Below.refl _ _ | assumption | refine Below.drew ?_ | refine Bl.alloc ?_ _ | refine below_drewN ?_ _ | refine Bl.chain ?_ (by assumption) (Nat.le_refl _)))⟩)

theorem wth_tb (b : Nat) (n : Int) (on : Bool) (hb : b < 256) (i : Nat) (hi : i < 8) : tb (wth b n on) (i : Int) = if (i : Int) = n then on else tb b (i : Int) := by
  rw [tb_nat _ i (by omega), tb_nat _ i (by omega)]
  by_cases h : n < 0 ∨ 7 < n
  · rw [wth_out b n on h hb, if_neg (by omega)]
  · obtain ⟨k, rfl⟩ : ∃ k : Nat, n = k := ⟨n.toNat, by omega⟩
    rw [wth_bit (by omega) i hi]
    by_cases e : i = k
    · rw [if_pos e, if_pos (by omega)]
    · rw [if_neg e, if_neg (by omega)]

theorem octetBits_calls (b : Nat) (n : Int) (on : Bool) (w : World) (hb : b < 256) (_h1 : -9223372036854775808 ≤ n) (_h2 : n ≤ 9223372036854775807) :
    Calls Try.prog 3 #[.int .u8 (b : Int), .int .i64 n, .bool on] w fun e w' => e = .returned (.bool true) ∧ Below w.heap.size w w' := by
  have hw := wth_lt (n := n) (on := on) hb
  have htb := wth_tb b n on hb
  have Htb := hide htb
  clear htb
  go_enter Try.func3, Try.ntmps3
  (go_wp2_with fail; refine Cl.m (live01_calls _) ?_; intro w1 hb1)
  (go_wp2_with fail; refine Cl.p (octWith_calls b n on _ hb) ?_)
  go_wp2_with fail
  go_loopw [8] (fun i wr => ∃ k : Nat, k ≤ 8 ∧ i = .int .i64 (k : Int) ∧ wr = w1) (fun i _ => 8 - (intOf i).toNat)
  case atStart => exact ⟨0, Nat.zero_le _, rfl, rfl⟩
  case round =>
    obtain ⟨k, hk, rfl, rfl⟩ := hrel
    by_cases hlt : k < 8
    · have hlt' : (k : Int) < 8 := by omega
      have ht := Htb.out k hlt
      by_cases e : (k : Int) = n
      · subst e
        rw [if_pos rfl] at ht
        have Ht := hide ht
        clear ht
        (go_wp2_with fail; refine Cl.p (refBit_calls b _ _ hb) ?_)
        (go_wp2_with fail; refine Cl.p (octBit_calls _ _ _ hw) ?_)
        rw [Ht.out]
        go_wp2_with fail
        go_roundw
        case rel => exact ⟨k + 1, by omega, by go_num, trivial⟩
        case measure => simp [intOf]; omega
      · rw [if_neg e] at ht
        have Ht := hide ht
        clear ht
        have e' : ((k : Int) == n) = false := by simpa using e
        (go_wp2_with fail; refine Cl.p (refBit_calls b _ _ hb) ?_)
        (go_wp2_with fail; refine Cl.p (octBit_calls _ _ _ hw) ?_)
        rw [Ht.out]
        go_wp2_with fail
        go_roundw
        case rel => exact ⟨k + 1, by omega, by go_num, trivial⟩
        case measure => simp [intOf]; omega
    · obtain rfl : k = 8 := by omega
      (go_wp2_with fail; refine Cl.p (octBit_calls _ _ _ hb) ?_)
      (go_wp2_with fail; refine Cl.p (refBit_calls _ _ _ hb) ?_)
      (go_wp2_with fail; refine Cl.m (refWith_calls b n on _ hb) ?_; intro w2 hb2)
      (go_wp2_with fail; go_ret; exact ⟨rfl, by (repeat (first | exact Below.refl _ _ | assumption | refine Below.drew ?_ | refine Bl.alloc ?_ _ | refine below_drewN ?_ _ | refine Bl.chain ?_ (by assumption) (Nat.le_refl _)))⟩)

theorem octetWords_calls (x lo hi : Nat) (w : World) (hx : x < 65536) (hl : lo < 256) (hh : hi < 256) :
    Calls Try.prog 4 #[.int .u16 (x : Int), .int .u8 (lo : Int), .int .u8 (hi : Int)] w fun e w' => e = .returned (.bool true) ∧ Below w.heap.size w w' := by
  have e1 : x % 256 + 256 * (x / 256) = x := by omega
  have e2 : (lo + 256 * hi) % 256 = lo := by omega
  have e3 : (lo + 256 * hi) / 256 = hi := by omega
  have e4 : ((x % 256 : Nat) : Int) = (x : Int) % 256 := by omega
  have e5 : ((x / 256 : Nat) : Int) = (x : Int) / 256 := by omega
  have e6 : ((lo + 256 * hi : Nat) : Int) = (lo : Int) + 256 * (hi : Int) := by omega
  have E1 := hide e1
  have E2 := hide e2
  have E3 := hide e3
  have E4 := hide e4
  have E5 := hide e5
  have E6 := hide e6
  clear e1 e2 e3 e4 e5 e6
  have hv : lo + 256 * hi < 65536 := by omega
  go_enter Try.func4, Try.ntmps4
  (go_wp2_with fail; refine Cl.m (live01_calls _) ?_; intro w1 hb1)
  (go_wp2_with fail; refine Cl.p (octWord_calls lo hi _ hl hh) ?_)
  (go_wp2_with fail; refine Cl.p (octLo_calls x _ hx) ?_)
  (go_wp2_with fail; refine Cl.p (octHi_calls x _ hx) ?_)
  (go_wp2_with fail; refine Cl.p (octLo_calls x _ hx) ?_)
  (go_wp2_with fail; refine Cl.p (octHi_calls x _ hx) ?_)
  (go_wp2_with fail; refine Cl.p (octWord_calls (x % 256) (x / 256) _ (Nat.mod_lt _ (by omega)) (by omega)) ?_)
  rw [E1.out]
  (go_wp2_with fail; refine Cl.p (octLo_calls _ _ hv) ?_)
  rw [E2.out]
  (go_wp2_with fail; refine Cl.p (octHi_calls _ _ hv) ?_)
  rw [E3.out]
  (go_wp2_with fail; refine Cl.p (octSigned_calls lo _ hl) ?_)
  (go_wp2_with fail; refine Cl.p (refSigned_calls lo _ hl) ?_)
  (go_wp2_with fail; go_ret; exact ⟨rfl, by (repeat (first | exact Below.refl _ _ | assumption | refine Below.drew ?_ | refine Bl.alloc ?_ _ | refine below_drewN ?_ _ | refine Bl.chain ?_ (by assumption) (Nat.le_refl _)))⟩)

def turns (b : Nat) (i : Bool) : Nat → Nat × Bool
  | 0 => (b, i)
  | k + 1 => (lft (turns b i k).1 (turns b i k).2, tb (turns b i k).1 7)
theorem turns_nine : ∀ b, b < 256 → ∀ i, turns b i 9 = (b, i) := by decide +kernel
theorem turns_lt (b : Nat) (i : Bool) (hb : b < 256) (k : Nat) : (turns b i k).1 < 256 := by
  cases k with
  | zero => exact hb
  | succ k => exact lft_lt _ _
theorem turns_succ (b : Nat) (i : Bool) (k : Nat) : turns b i (k + 1) = (lft (turns b i k).1 (turns b i k).2, tb (turns b i k).1 7) := rfl

theorem octetTurns_calls (b : Nat) (i : Bool) (w : World) (hb : b < 256) :
    Calls Try.prog 5 #[.int .u8 (b : Int), .bool i] w fun e w' => e = .returned (.bool true) ∧ Below w.heap.size w w' := by
  have hl := lft_lt b i
  have e1 : rgt (lft b i) (tb b 7) = b := by rw [show (7 : Int) = ((7 : Nat) : Int) from rfl, tb_nat b 7 (by omega)]; exact rgt_lft b i hb
  have e2 : tb (lft b i) 0 = i := by rw [show (0 : Int) = ((0 : Nat) : Int) from rfl, tb_nat _ 0 (by omega)]; exact lft_out0 b i
  have E1 := hide e1
  have E2 := hide e2
  clear e1 e2
  go_enter Try.func5, Try.ntmps5
  (go_wp2_with fail; refine Cl.m (live01_calls _) ?_; intro w1 hb1)
  (go_wp2_with fail; refine Cl.p (octLeft_calls b i _ hb) ?_)
  (go_wp2_with fail; refine Cl.p (octRight_calls b i _ hb) ?_)
  (go_wp2_with fail; refine Cl.m (refLeft_calls b i _ hb) ?_; intro w2 hb2)
  (go_wp2_with fail; refine Cl.m (refRight_calls b i _ hb) ?_; intro w3 hb3)
  (go_wp2_with fail; refine Cl.p (octRight_calls (lft b i) (tb b 7) _ hl) ?_)
  rw [E1.out, E2.out]
  go_wp2_with fail
  go_loop [15, 16, 17] (fun c d j => ∃ k : Nat, k ≤ 9 ∧ j = .int .i64 (k : Int) ∧ c = .int .u8 (((turns b i k).1 : Nat) : Int) ∧ d = .bool (turns b i k).2) (fun _ _ j => 9 - (intOf j).toNat)
  case atStart => exact ⟨0, Nat.zero_le _, rfl, rfl, rfl⟩
  case round =>
    obtain ⟨k, hk, rfl, rfl, rfl⟩ := hrel
    by_cases hlt : k < 9
    · have hlt' : (k : Int) < 9 := by omega
      have ht := turns_lt b i hb k
      have hs := turns_succ b i k
      generalize turns b i k = p at ht hs ⊢
      have Hs := hide hs
      clear hs
      (go_wp2_with fail; refine Cl.p (octLeft_calls p.1 p.2 _ ht) ?_)
      go_wp2_with fail
      go_round
      case rel => exact ⟨k + 1, by omega, by go_num, by rw [Hs.out], by rw [Hs.out]⟩
      case measure => simp [intOf]; omega
    · obtain rfl : k = 9 := by omega
      rw [turns_nine b hb i]
      (go_wp2_with fail; go_ret; exact ⟨rfl, by (repeat (first | exact Below.refl _ _ | assumption | refine Below.drew ?_ | refine Bl.alloc ?_ _ | refine below_drewN ?_ _ | refine Bl.chain ?_ (by assumption) (Nat.le_refl _)))⟩)

def cT (b : Nat) : Nat → Nat
  | 0 => 0
  | j + 1 => if b.testBit (7 - j) then cT b j + 1 else cT b j
def fT (b : Nat) : Nat → Int
  | 0 => -1
  | j + 1 => if b.testBit (7 - j) then 7 - (j : Int) else fT b j
theorem cfT_all : ∀ b, b < 256 → cT b 8 = cnt b ∧ fT b 8 = fst b := by decide +kernel
theorem cT_le (b j : Nat) : cT b j ≤ j := by
  induction j with
  | zero => exact Nat.le_refl _
  | succ j ih => unfold cT; split <;> omega

theorem octetCounts_calls (b : Nat) (w : World) (hb : b < 256) :
    Calls Try.prog 6 #[.int .u8 (b : Int)] w fun e w' => e = .returned (.bool true) ∧ Below w.heap.size w w' := by
  have hall := cfT_all b hb
  have Hall := hide hall
  clear hall
  go_enter Try.func6, Try.ntmps6
  (go_wp2_with fail; refine Cl.m (live01_calls _) ?_; intro w1 hb1)
  go_wp2_with fail
  go_loop [3, 4, 5] (fun c f i => ∃ j : Nat, j ≤ 8 ∧ i = .int .i64 (7 - (j : Int)) ∧ c = .int .i64 (cT b j : Nat) ∧ f = .int .i64 (fT b j)) (fun _ _ i => (intOf i + 1).toNat)
  case atStart => exact ⟨0, Nat.zero_le _, rfl, rfl, rfl⟩
  case round =>
    obtain ⟨j, hj, rfl, rfl, rfl⟩ := hrel
    by_cases hlt : j < 8
    · have hlt' : (0 : Int) ≤ 7 - (j : Int) := by omega
      have hbit : tb b (7 - (j : Int)) = b.testBit (7 - j) := by
        rw [show (7 : Int) - (j : Int) = ((7 - j : Nat) : Int) from by omega, tb_nat b _ (by omega)]
      have hc := cT_le b j
      (go_wp2_with fail; refine Cl.p (refBit_calls b _ _ hb) ?_)
      rw [hbit]
      cases hv : b.testBit (7 - j)
      · have h1 : cT b (j + 1) = cT b j := by rw [cT, hv]; rfl
        have h2 : fT b (j + 1) = fT b j := by rw [fT, hv]; rfl
        have H1 := hide h1
        have H2 := hide h2
        clear h1 h2 hv hbit
        go_wp2_with fail
        go_round
        case rel => exact ⟨j + 1, by omega, by go_num, by rw [H1.out], by rw [H2.out]⟩
        case measure => simp [intOf]; omega
      · have h1 : cT b (j + 1) = cT b j + 1 := by rw [cT, hv]; rfl
        have h2 : fT b (j + 1) = 7 - (j : Int) := by rw [fT, hv]; rfl
        have H1 := hide h1
        have H2 := hide h2
        clear h1 h2 hv hbit
        go_wp2_with fail
        go_round
        case rel => exact ⟨j + 1, by omega, by go_num, by rw [H1.out]; go_num, by rw [H2.out]⟩
        case measure => simp [intOf]; omega
    · obtain rfl : j = 8 := by omega
      rw [Hall.out.1, Hall.out.2]
      (go_wp2_with fail; refine Cl.p (octCount_calls b _ hb) ?_)
      (go_wp2_with fail; refine Cl.p (octFirst_calls b _ hb) ?_)
      (go_wp2_with fail; go_ret; exact ⟨rfl, by (repeat (first | exact Below.refl _ _ | assumption | refine Below.drew ?_ | refine Bl.alloc ?_ _ | refine below_drewN ?_ _ | refine Bl.chain ?_ (by assumption) (Nat.le_refl _)))⟩)

theorem octetPacks_calls (n : Int) (b : Nat) (w : World) (hn1 : -9223372036854775808 ≤ n) (hn2 : n ≤ 9223372036854775807) (hb : b < 256) :
    Calls Try.prog 7 #[.int .i64 n, .int .u8 (b : Int)] w fun e w' => e = .returned (.bool true) ∧ Below w.heap.size w w' := by
  have hp1 : n < 0 ∨ 99 < n → packV n = .tuple #[.int .u8 0, .int .i64 1] := fun h => by unfold packV; rw [if_pos h]
  have hp2 : ¬ (n < 0 ∨ 99 < n) → packV n = .tuple #[.int .u8 (n / 10 * 16 + n % 10), .int .i64 0] := fun h => by unfold packV; rw [if_neg h]
  have hu1 : 9 < b / 16 ∨ 9 < b % 16 → unpackV b = .tuple #[.int .i64 0, .int .i64 3] := fun h => by unfold unpackV; rw [if_pos h]
  have hu2 : ¬ (9 < b / 16 ∨ 9 < b % 16) → unpackV b = .tuple #[.int .i64 (10 * ((b : Int) / 16) + (b : Int) % 16), .int .i64 0] := fun h => by
    unfold unpackV; rw [if_neg h]; congr 3; congr 1; omega
  go_enter Try.func7, Try.ntmps7
  (go_wp2_with fail; refine Cl.m (live01_calls _) ?_; intro w1 hb1)
  (go_wp2_with fail; refine Cl.p (octPack_calls n _ hn1 hn2) ?_)
  by_cases h1 : n < 0
  · rw [hp1 (.inl h1)]
    (go_wp2_with fail; refine Cl.p (octUnpack_calls b _ hb) ?_)
    by_cases h2 : 9 < b / 16
    · have h2' : (9 : Int) < (b : Int) / 16 := by omega
      rw [hu1 (.inl h2)]
      (go_wp2_with fail; go_ret; exact ⟨rfl, by (repeat (first | exact Below.refl _ _ | assumption | refine Below.drew ?_ | refine Bl.alloc ?_ _ | refine below_drewN ?_ _ | refine Bl.chain ?_ (by assumption) (Nat.le_refl _)))⟩)
    · have h2' : ¬ (9 : Int) < (b : Int) / 16 := by omega
      by_cases h3 : 9 < b % 16
      · have h3' : (9 : Int) < (b : Int) % 16 := by omega
        rw [hu1 (.inr h3)]
        (go_wp2_with fail; go_ret; exact ⟨rfl, by (repeat (first | exact Below.refl _ _ | assumption | refine Below.drew ?_ | refine Bl.alloc ?_ _ | refine below_drewN ?_ _ | refine Bl.chain ?_ (by assumption) (Nat.le_refl _)))⟩)
      · have h3' : ¬ (9 : Int) < (b : Int) % 16 := by omega
        rw [hu2 (by omega)]
        (go_wp2_with fail; go_ret; exact ⟨rfl, by (repeat (first | exact Below.refl _ _ | assumption | refine Below.drew ?_ | refine Bl.alloc ?_ _ | refine below_drewN ?_ _ | refine Bl.chain ?_ (by assumption) (Nat.le_refl _)))⟩)
  · by_cases h4 : 99 < n
    · rw [hp1 (.inr h4)]
      (go_wp2_with fail; refine Cl.p (octUnpack_calls b _ hb) ?_)
      by_cases h2 : 9 < b / 16
      · have h2' : (9 : Int) < (b : Int) / 16 := by omega
        rw [hu1 (.inl h2)]
        (go_wp2_with fail; go_ret; exact ⟨rfl, by (repeat (first | exact Below.refl _ _ | assumption | refine Below.drew ?_ | refine Bl.alloc ?_ _ | refine below_drewN ?_ _ | refine Bl.chain ?_ (by assumption) (Nat.le_refl _)))⟩)
      · have h2' : ¬ (9 : Int) < (b : Int) / 16 := by omega
        by_cases h3 : 9 < b % 16
        · have h3' : (9 : Int) < (b : Int) % 16 := by omega
          rw [hu1 (.inr h3)]
          (go_wp2_with fail; go_ret; exact ⟨rfl, by (repeat (first | exact Below.refl _ _ | assumption | refine Below.drew ?_ | refine Bl.alloc ?_ _ | refine below_drewN ?_ _ | refine Bl.chain ?_ (by assumption) (Nat.le_refl _)))⟩)
        · have h3' : ¬ (9 : Int) < (b : Int) % 16 := by omega
          rw [hu2 (by omega)]
          (go_wp2_with fail; go_ret; exact ⟨rfl, by (repeat (first | exact Below.refl _ _ | assumption | refine Below.drew ?_ | refine Bl.alloc ?_ _ | refine below_drewN ?_ _ | refine Bl.chain ?_ (by assumption) (Nat.le_refl _)))⟩)
    · rw [hp2 (by omega)]
      (go_wp2_with fail; refine Cl.p (octUnpack_calls b _ hb) ?_)
      by_cases h2 : 9 < b / 16
      · have h2' : (9 : Int) < (b : Int) / 16 := by omega
        rw [hu1 (.inl h2)]
        (go_wp2_with fail; go_ret; exact ⟨rfl, by (repeat (first | exact Below.refl _ _ | assumption | refine Below.drew ?_ | refine Bl.alloc ?_ _ | refine below_drewN ?_ _ | refine Bl.chain ?_ (by assumption) (Nat.le_refl _)))⟩)
      · have h2' : ¬ (9 : Int) < (b : Int) / 16 := by omega
        by_cases h3 : 9 < b % 16
        · have h3' : (9 : Int) < (b : Int) % 16 := by omega
          rw [hu1 (.inr h3)]
          (go_wp2_with fail; go_ret; exact ⟨rfl, by (repeat (first | exact Below.refl _ _ | assumption | refine Below.drew ?_ | refine Bl.alloc ?_ _ | refine below_drewN ?_ _ | refine Bl.chain ?_ (by assumption) (Nat.le_refl _)))⟩)
        · have h3' : ¬ (9 : Int) < (b : Int) % 16 := by omega
          rw [hu2 (by omega)]
          (go_wp2_with fail; go_ret; exact ⟨rfl, by (repeat (first | exact Below.refl _ _ | assumption | refine Below.drew ?_ | refine Bl.alloc ?_ _ | refine below_drewN ?_ _ | refine Bl.chain ?_ (by assumption) (Nat.le_refl _)))⟩)

theorem octetHex_calls (n : Nat) (k : Int) (s : ByteArray) (w : World) (hn : n < 4294967296) (hk1 : -9223372036854775808 ≤ k) (hk2 : k ≤ 9223372036854775807) (hs : s.size ≤ maxLen) :
    Calls Try.prog 8 #[.int .u32 (n : Int), .int .i64 k, .string s] w fun e w' => e = .returned (.bool true) ∧ Below w.heap.size w w' := by
  have e8 : fh (ByteArray.mk (hexT n (clampK 8)).toArray).toList = (n, 0) := by
    rw [ByteArray.toList_mk, show clampK 8 = 8 from rfl]
    exact fh_hexT n 8 (by omega) (by omega) hn
  have E8 := hide e8
  clear e8
  go_enter Try.func8, Try.ntmps8
  (go_wp2_with fail; refine Cl.m (live01_calls _) ?_; intro w1 hb1)
  (go_wp2_with fail; refine Cl.m (octHex_calls n k _ hn hk1 hk2) ?_; intro w2 hb2)
  (go_wp2_with fail; refine Cl.p (octFromHex_calls s _ hs) ?_)
  obtain ⟨r, hr⟩ : ∃ r, fh s.toList = r := ⟨_, rfl⟩
  have href := refFromHex_calls s w2 hs
  rw [hr] at href ⊢
  clear hr
  unfold fhV at href ⊢
  have hz : (hexT n (clampK 8)).length ≤ maxLen := by rw [hexT_len]; decide
  go_wp2_with fail
  refine href.mono ?_
  rintro e w3 ⟨rfl, q, rfl⟩
  clear href
  (go_wp2_with fail; refine Cl.m (octHex_calls n 8 _ hn (by omega) (by omega)) ?_; intro w4 hb4)
  (go_wp2_with fail; refine Cl.p (octFromHex_calls _ _ hz) ?_)
  rw [E8.out]
  unfold fhV
  (go_wp2_with fail; refine Cl.p (refHex_calls n k _ hn hk1 hk2) ?_)
  (go_wp2_with fail; go_ret; exact ⟨rfl, by (repeat (first | exact Below.refl _ _ | assumption | refine Below.drew ?_ | refine Bl.alloc ?_ _ | refine below_drewN ?_ _ | refine Bl.chain ?_ (by assumption) (Nat.le_refl _)))⟩)
section
open Go.ChangeShapes Go.WideShapes Go.ChangeAt
variable {H : Type} {enc : TypeId × Value → H} {W : World} {base : Nat}
theorem walk_OctetBits {v0 v1 v2 : Value} {d0 d1 d2 : DataW H} {p0 p1 p2 : List MemPlace}
    (_hsh : W.ShapedOpen Try.prog) (_hsz : (DataW.weightsEach Try.prog [5, 3, 4] [d0, d1, d2]).all (· ≤ reachBytes) = true)
    (hv0 : Value.okWide Try.prog W .any base 5 v0) (hd0 : DataW.Trod enc Try.prog W 0 (fun _ => true) true 5 v0 d0 p0) (hv1 : Value.okWide Try.prog W .any base 3 v1) (hd1 : DataW.Trod enc Try.prog W 0 (fun _ => true) true 3 v1 d1 p1) (hv2 : Value.okWide Try.prog W .any base 4 v2) (hd2 : DataW.Trod enc Try.prog W 0 (fun _ => true) true 4 v2 d2 p2) :
    Calls Try.prog 3 #[v0, v1, v2] W fun e W' => e = .returned (.bool true) ∧ Below W.heap.size W W' := by
  obtain ⟨x0, rfl, h0⟩ := open_u8 Try.underlying5 hv0 hd0
  obtain ⟨x1, rfl, h1a, h1b⟩ := open_i64 Try.underlying3 hv1 hd1
  obtain ⟨x2, rfl⟩ := open_yes Try.underlying4 hv2 hd2
  exact octetBits_calls x0 x1 x2 W h0 h1a h1b
theorem walk_OctetWords {v0 v1 v2 : Value} {d0 d1 d2 : DataW H} {p0 p1 p2 : List MemPlace}
    (_hsh : W.ShapedOpen Try.prog) (_hsz : (DataW.weightsEach Try.prog [26, 5, 5] [d0, d1, d2]).all (· ≤ reachBytes) = true)
    (hv0 : Value.okWide Try.prog W .any base 26 v0) (hd0 : DataW.Trod enc Try.prog W 0 (fun _ => true) true 26 v0 d0 p0) (hv1 : Value.okWide Try.prog W .any base 5 v1) (hd1 : DataW.Trod enc Try.prog W 0 (fun _ => true) true 5 v1 d1 p1) (hv2 : Value.okWide Try.prog W .any base 5 v2) (hd2 : DataW.Trod enc Try.prog W 0 (fun _ => true) true 5 v2 d2 p2) :
    Calls Try.prog 4 #[v0, v1, v2] W fun e W' => e = .returned (.bool true) ∧ Below W.heap.size W W' := by
  obtain ⟨x0, rfl, h0⟩ := open_u16 Try.underlying26 hv0 hd0
  obtain ⟨x1, rfl, h1⟩ := open_u8 Try.underlying5 hv1 hd1
  obtain ⟨x2, rfl, h2⟩ := open_u8 Try.underlying5 hv2 hd2
  exact octetWords_calls x0 x1 x2 W h0 h1 h2
theorem walk_OctetTurns {v0 v1 : Value} {d0 d1 : DataW H} {p0 p1 : List MemPlace}
    (_hsh : W.ShapedOpen Try.prog) (_hsz : (DataW.weightsEach Try.prog [5, 4] [d0, d1]).all (· ≤ reachBytes) = true)
    (hv0 : Value.okWide Try.prog W .any base 5 v0) (hd0 : DataW.Trod enc Try.prog W 0 (fun _ => true) true 5 v0 d0 p0) (hv1 : Value.okWide Try.prog W .any base 4 v1) (hd1 : DataW.Trod enc Try.prog W 0 (fun _ => true) true 4 v1 d1 p1) :
    Calls Try.prog 5 #[v0, v1] W fun e W' => e = .returned (.bool true) ∧ Below W.heap.size W W' := by
  obtain ⟨x0, rfl, h0⟩ := open_u8 Try.underlying5 hv0 hd0
  obtain ⟨x1, rfl⟩ := open_yes Try.underlying4 hv1 hd1
  exact octetTurns_calls x0 x1 W h0
theorem walk_OctetCounts {v0 : Value} {d0 : DataW H} {p0 : List MemPlace}
    (_hsh : W.ShapedOpen Try.prog) (_hsz : (DataW.weightsEach Try.prog [5] [d0]).all (· ≤ reachBytes) = true)
    (hv0 : Value.okWide Try.prog W .any base 5 v0) (hd0 : DataW.Trod enc Try.prog W 0 (fun _ => true) true 5 v0 d0 p0) :
    Calls Try.prog 6 #[v0] W fun e W' => e = .returned (.bool true) ∧ Below W.heap.size W W' := by
  obtain ⟨x0, rfl, h0⟩ := open_u8 Try.underlying5 hv0 hd0
  exact octetCounts_calls x0 W h0
theorem walk_OctetPacks {v0 v1 : Value} {d0 d1 : DataW H} {p0 p1 : List MemPlace}
    (_hsh : W.ShapedOpen Try.prog) (_hsz : (DataW.weightsEach Try.prog [3, 5] [d0, d1]).all (· ≤ reachBytes) = true)
    (hv0 : Value.okWide Try.prog W .any base 3 v0) (hd0 : DataW.Trod enc Try.prog W 0 (fun _ => true) true 3 v0 d0 p0) (hv1 : Value.okWide Try.prog W .any base 5 v1) (hd1 : DataW.Trod enc Try.prog W 0 (fun _ => true) true 5 v1 d1 p1) :
    Calls Try.prog 7 #[v0, v1] W fun e W' => e = .returned (.bool true) ∧ Below W.heap.size W W' := by
  obtain ⟨x0, rfl, h0a, h0b⟩ := open_i64 Try.underlying3 hv0 hd0
  obtain ⟨x1, rfl, h1⟩ := open_u8 Try.underlying5 hv1 hd1
  exact octetPacks_calls x0 x1 W h0a h0b h1
theorem walk_OctetHex {v0 v1 v2 : Value} {d0 d1 d2 : DataW H} {p0 p1 p2 : List MemPlace}
    (_hsh : W.ShapedOpen Try.prog) (_hsz : (DataW.weightsEach Try.prog [41, 3, 9] [d0, d1, d2]).all (· ≤ reachBytes) = true)
    (hv0 : Value.okWide Try.prog W .any base 41 v0) (hd0 : DataW.Trod enc Try.prog W 0 (fun _ => true) true 41 v0 d0 p0) (hv1 : Value.okWide Try.prog W .any base 3 v1) (hd1 : DataW.Trod enc Try.prog W 0 (fun _ => true) true 3 v1 d1 p1) (hv2 : Value.okWide Try.prog W .any base 9 v2) (hd2 : DataW.Trod enc Try.prog W 0 (fun _ => true) true 9 v2 d2 p2) :
    Calls Try.prog 8 #[v0, v1, v2] W fun e W' => e = .returned (.bool true) ∧ Below W.heap.size W W' := by
  obtain ⟨x0, rfl, h0⟩ := open_u32 Try.underlying41 hv0 hd0
  obtain ⟨x1, rfl, h1a, h1b⟩ := open_i64 Try.underlying3 hv1 hd1
  obtain ⟨x2, rfl, h2⟩ := open_str Try.underlying9 hv2 hd2
  exact octetHex_calls x0 x1 x2 W h0 h1a h1b h2
end
end Go.Proofs.Ytmglaoaakfkaiaa
