/-
  Package adder: Sub, Compare, Digits. gannetref01.Same.
-/
import Derived.Test.YtnjnhfkfpahniaaAdder
import Derived.Test.YtnjnhfkfpahniaaOpen
namespace Go.Proofs.Ytnjnhfkfpahniaa
open Go.RowKit Pl

theorem lo2_slo (a b p : Nat) : lo2 a b (1 - car p) = slo a b (car p) := by have := car_le p; unfold lo2 slo; omega
theorem hi2_shi (a b p : Nat) : hi2 a b (1 - car p) = shi a b (car p) := by
  unfold hi2 shi bor
  rw [lo2_slo]
  by_cases h : slo a b (car p) < 0
  · rw [if_neg (by omega), if_pos h]; rfl
  · rw [if_pos (by omega), if_neg h]; rfl
theorem u8_compl : ∀ b : Nat, b < 256 → bits .xor .u8 IntKind.u8.max (b : Int) = ((255 - b : Nat) : Int) := by decide +kernel
theorem adSub_calls (a b p : Nat) (w : World) (ha : a < 256) (hb : b < 256) (hp : p < 256) :
    Calls Try.prog 10 #[.int .u8 (a : Int), .int .u8 (b : Int), .int .u8 (p : Int)] w fun e w' => e = .returned (sumV (subR a b p) (subP a b p) (tb p 3)) ∧ w = w' := by
  have hD : fis p 8 = tb p 3 := fis_tb p 3 (by omega)
  have hc := car_le p
  cases ht : tb p 3
  · have e : sumV (subR a b p) (subP a b p) false = .tuple #[.int .u8 (baddR a (255 - b) p : Nat), .int .u8 (baddP a (255 - b) p : Nat), .bool false] := by unfold sumV subR subP; rw [ht]; rfl
    have hn := u8_compl b hb
    have Hn := hide hn
    rw [ht] at hD
    rw [e]
    have HD := hide hD
    clear hD ht e hn
    go_enter Try.func10, Try.ntmps10
    (go_wp2_with fail; refine Cl.p (flIs_calls p 8 _ hp (by omega)) ?_)
    rw [HD.out]
    go_wp2_with fail
    rw [Hn.out]
    refine Cl.p (adBinary_calls a (255 - b) p _ ha (by omega) hp) ?_
    go_wp2_with fail
    go_ret3
    exact ⟨rfl, rfl⟩
  · have e : sumV (subR a b p) (subP a b p) true = .tuple #[.int .u8 (dsubR a b p : Nat), .int .u8 (dsubP a b p : Nat), .bool true] := by unfold sumV subR subP; rw [ht]; rfl
    have e2 : sdig (hi2 a b (1 - car p)) % 16 * 16 + sdig (lo2 a b (1 - car p)) % 16 = ((dsubR a b p : Nat) : Int) := by rw [lo2_slo, hi2_shi]; unfold dsubR; omega
    have e3 : (((bor (hi2 a b (1 - car p)) : Nat) : Int) == 0) = decide (0 ≤ shi a b (car p)) := by rw [hi2_shi]; unfold bor; split <;> simp_all
    have e4 : ofF p (dsubR a b p) (decide (0 ≤ shi a b (car p))) = dsubP a b p := rfl
    have e5 : (1 : Int) - (car p : Int) = ((1 - car p : Nat) : Int) := by omega
    have hr := dsubR_lt a b p
    have hc1 : 1 - car p ≤ 1 := by omega
    rw [ht] at hD
    rw [e]
    have HD := hide hD
    obtain ⟨q, hq⟩ : ∃ q : Nat, bor (hi2 a b (1 - car p)) = q := ⟨_, rfl⟩
    rw [hq] at e3
    generalize decide (0 ≤ shi a b (car p)) = y at *
    have E2 := hide e2
    have E3 := hide e3
    have E4 := hide e4
    have E5 := hide e5
    have Hq := hide hq
    clear hD ht e e2 e3 e4 e5 hq
    go_enter Try.func10, Try.ntmps10
    (go_wp2_with fail; refine Cl.p (flIs_calls p 8 _ hp (by omega)) ?_)
    rw [HD.out]
    (go_wp2_with fail; refine Cl.p (adCarry_calls p _ hp) ?_)
    go_wp2_with fail
    rw [E5.out]
    refine Cl.p (adBothLess_calls a b (1 - car p) _ ha hb hc1) ?_
    rw [E2.out, Hq.out]
    go_wp2_with fail
    rw [E3.out]
    refine Cl.p (adOf_calls p (dsubR a b p) y _ hp hr) ?_
    rw [E4.out]
    go_wp2_with fail
    go_ret3
    exact ⟨rfl, rfl⟩

theorem adCompare_calls (r b p : Nat) (w : World) (hr : r < 256) (hb : b < 256) (hp : p < 256) :
    Calls Try.prog 13 #[.int .u8 (r : Int), .int .u8 (b : Int), .int .u8 (p : Int)] w fun e w' => e = .returned (.int .u8 (cmpP r b p : Nat)) ∧ w = w' := by
  have h1 : ((r : Int) - (b : Int)) % 256 = (((r + 256 - b) % 256 : Nat) : Int) := by omega
  have h2 : decide ((b : Int) ≤ (r : Int)) = decide (b ≤ r) := by rw [decide_eq_decide]; omega
  have H1 := hide h1
  have H2 := hide h2
  clear h1 h2
  go_enter Try.func13, Try.ntmps13
  go_wp2_with fail
  rw [H1.out]
  refine Cl.p (adOf_calls p ((r + 256 - b) % 256) (decide (b ≤ r)) _ hp (Nat.mod_lt _ (by omega))) ?_
  go_wp2_with fail
  go_ret
  exact ⟨rfl, rfl⟩

/-- Alike. -/
theorem refSame_calls (a b : Option Addr) (la lb ca cb : Nat) (f g : Nat → Int) (w : World) (hf : NumsAt w .u8 a la f) (hg : NumsAt w .u8 b lb g) (hla : la ≤ maxLen) (_hlb : lb ≤ maxLen)
    (hl : la = lb) (hfg : ∀ i, i < la → f i = g i) :
    Calls Try.prog 16 #[.slice a la ca, .slice b lb cb] w fun e w' => e = .returned (.bool true) ∧ Below w.heap.size w w' := by
  subst hl
  unfold maxLen at hla
  go_enter Try.func16, Try.ntmps16
  go_wp2_with fail
  go_loopw [5] (fun i wr => ∃ n q : Nat, n ≤ la ∧ i = .int .i64 (n : Int) ∧ wr = w.drewN q) (fun i _ => la - (intOf i).toNat)
  case atStart => exact ⟨0, 0, by omega, rfl, rfl⟩
  case round =>
    obtain ⟨n, q, hn, rfl, rfl⟩ := hrel
    by_cases hlt : n < la
    · have hlt' : (n : Int) < (la : Int) := by omega
      obtain ⟨bf_, of_, rfl, _, hcf⟩ := hf n hlt
      obtain ⟨bg, og, rfl, _, hcg⟩ := hg n hlt
      have he := hfg n hlt
      rw [← he] at hcg
      clear hf hg hfg he
      go_wp2_with fail
      go_quiet (fail)
      go_wp2_with fail
      go_roundw
      case rel => exact ⟨n + 1, _, by omega, by go_num, rfl⟩
      case measure => simp [intOf]; omega
    · obtain rfl : n = la := by omega
      go_wp2_with fail
      go_ret
      exact ⟨rfl, below_drewN (Below.refl _ _) _⟩
end Go.Proofs.Ytnjnhfkfpahniaa
