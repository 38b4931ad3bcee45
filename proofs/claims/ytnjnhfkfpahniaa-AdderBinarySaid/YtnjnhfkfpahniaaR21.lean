/-
  gannetref21: carry, Add, Sub, Compare, Digits.
-/
import Derived.Test.YtnjnhfkfpahniaaAdder2
import Derived.Test.YtnjnhfkfpahniaaR01b
namespace Go.Proofs.Ytnjnhfkfpahniaa
open Go.RowKit Pl

theorem r20ResultX_calls (p v : Nat) (x : Int) (w : World) (hx : x = v) (hp : p < 256) (hv : v < 256) :
    Calls Try.prog 28 #[.int .u8 (p : Int), .int .u8 x] w fun e w' => e = .returned (.int .u8 (fres p v : Nat)) ∧ Below w.heap.size w w' := by
  subst hx
  exact r20Result_calls p v w hp hv
theorem ret_sum {r r' : Int} {p p' : Int} {x : Bool} (h : r = r') (h2 : p = p') : Ending.returned (.tuple #[.int .u8 r, .int .u8 p, .bool x]) = .returned (.tuple #[.int .u8 r', .int .u8 p', .bool x]) := by rw [h, h2]

theorem r21Carry_calls (p : Nat) (w : World) (hp : p < 256) :
    Calls Try.prog 27 #[.int .u8 (p : Int)] w fun e w' => e = .returned (.int .i64 (car p : Nat)) ∧ w = w' := by
  unfold car
  cases ht : tb p 0
  · go_enter Try.func27, Try.ntmps27
    (go_wp2_with fail; refine Cl.p (r20Is_calls p 0 _ hp) ?_)
    rw [ht]
    go_wp2_with fail
    go_ret
    exact ⟨rfl, rfl⟩
  · go_enter Try.func27, Try.ntmps27
    (go_wp2_with fail; refine Cl.p (r20Is_calls p 0 _ hp) ?_)
    rw [ht]
    go_wp2_with fail
    go_ret
    exact ⟨rfl, rfl⟩

theorem sgn_le (a : Nat) (ha : a < 256) : -128 ≤ sgn a ∧ sgn a ≤ 127 := by unfold sgn; split <;> omega

theorem badd_ref (a b p : Nat) (o y : Bool) (hp : p < 256) (ho : ovf a b (car p) = o) (hy : decide (255 < a + b + car p) = y) : fres (wth (wth p 0 y) 6 o) (baddR a b p) = baddP a b p := by
  unfold baddP ofF
  rw [ho, hy, wth6, wth0, show (64 : Nat) = 2 ^ 6 from rfl, show (1 : Nat) = 2 ^ 0 from rfl, fset_comm p 6 0 o y hp (by omega) (by omega) (by omega)]
theorem dadd_ref (a b p : Nat) (y : Bool) (hy : decide (16 ≤ dhi a b (car p)) = y) : fres (wth p 0 y) (daddR a b p) = daddP a b p := by
  unfold daddP ofF
  rw [hy, wth0]

set_option maxHeartbeats 4000000 in
theorem r21Add_calls (a b p : Nat) (w : World) (ha : a < 256) (hb : b < 256) (hp : p < 256) :
    Calls Try.prog 11 #[.int .u8 (a : Int), .int .u8 (b : Int), .int .u8 (p : Int)] w fun e w' => e = .returned (sumV (addR a b p) (addP a b p) (tb p 3)) ∧ Below w.heap.size w w' := by
  have hc := car_le p
  cases ht : tb p 3
  · have e : sumV (addR a b p) (addP a b p) false = .tuple #[.int .u8 (baddR a b p : Nat), .int .u8 (baddP a b p : Nat), .bool false] := by unfold sumV addR addP; rw [ht]; rfl
    have hr : ((a : Int) + (b : Int) + (car p : Nat)) % 256 = ((baddR a b p : Nat) : Int) := by unfold baddR; omega
    have hR := baddR_lt a b p
    have hP := fun o y => badd_ref a b p o y hp
    have hov : ∀ x : Bool, (x = true ↔ (sgn a + sgn b + car p < -128 ∨ 127 < sgn a + sgn b + car p)) → ovf a b (car p) = x := fun x hx => by
      rw [Bool.eq_iff_iff, hx]; unfold ovf; simp
    have hy : decide (255 < a + b + car p) = decide ((255 : Int) < (a : Int) + (b : Int) + (car p : Nat)) := by rw [decide_eq_decide]; omega
    have hs1 := sgn_le a ha
    have hs2 := sgn_le b hb
    rw [e]
    have Ht := hide ht
    have Hr := hide hr
    have HP := hide hP
    have Hov := hide hov
    have Hy := hide hy
    clear e ht hr hP hov hy
    obtain ⟨hs1a, hs1b⟩ := hs1
    obtain ⟨hs2a, hs2b⟩ := hs2
    by_cases h1 : sgn a + sgn b + (car p : Nat) < -128
    · have ho := Hov.out true (by simp [h1])
      have Ho := hide ho
      clear ho
      go_enter Try.func11, Try.ntmps11
      (go_wp2_with fail; refine Cl.p (r20Is_calls p 3 _ hp) ?_)
      rw [Ht.out]
      (go_wp2_with fail; refine Cl.p (r21Carry_calls p _ hp) ?_)
      (go_wp2_with fail; refine Cl.p (refSigned_calls a _ ha) ?_)
      (go_wp2_with fail; refine Cl.p (refSigned_calls b _ hb) ?_)
      (go_wp2_with fail; refine Cl.p (r21Carry_calls p _ hp) ?_)
      (go_wp2_with fail; refine Cl.m (r20Set_calls p 0 _ _ hp) ?_; intro w1 hb1)
      (go_wp2_with fail; refine Cl.m (r20Set_calls _ 6 _ _ (wth_lt hp)) ?_; intro w2 hb2)
      (go_wp2_with fail; refine Cl.m (r20ResultX_calls _ (baddR a b p) _ _ (by first | exact Hr.out | (have := Hr.out; omega)) (wth_lt (wth_lt hp)) hR) ?_; intro w3 hb3)
      go_wp2_with fail
      go_ret3
      exact ⟨ret_sum (by first | exact Hr.out | (have := Hr.out; omega)) (congrArg (Nat.cast (R := Int)) (HP.out _ _ Ho.out Hy.out)), by (repeat (first | exact Below.refl _ _ | assumption | refine Below.drew ?_ | refine Bl.alloc ?_ _ | refine below_drewN ?_ _ | refine Bl.chain ?_ (by assumption) (Nat.le_refl _)))⟩
    · by_cases h2 : 127 < sgn a + sgn b + (car p : Nat)
      · have ho := Hov.out true (by simp [h2])
        have Ho := hide ho
        clear ho
        go_enter Try.func11, Try.ntmps11
        (go_wp2_with fail; refine Cl.p (r20Is_calls p 3 _ hp) ?_)
        rw [Ht.out]
        (go_wp2_with fail; refine Cl.p (r21Carry_calls p _ hp) ?_)
        (go_wp2_with fail; refine Cl.p (refSigned_calls a _ ha) ?_)
        (go_wp2_with fail; refine Cl.p (refSigned_calls b _ hb) ?_)
        (go_wp2_with fail; refine Cl.p (r21Carry_calls p _ hp) ?_)
        (go_wp2_with fail; refine Cl.m (r20Set_calls p 0 _ _ hp) ?_; intro w1 hb1)
        (go_wp2_with fail; refine Cl.m (r20Set_calls _ 6 _ _ (wth_lt hp)) ?_; intro w2 hb2)
        (go_wp2_with fail; refine Cl.m (r20ResultX_calls _ (baddR a b p) _ _ (by first | exact Hr.out | (have := Hr.out; omega)) (wth_lt (wth_lt hp)) hR) ?_; intro w3 hb3)
        go_wp2_with fail
        go_ret3
        exact ⟨ret_sum (by first | exact Hr.out | (have := Hr.out; omega)) (congrArg (Nat.cast (R := Int)) (HP.out _ _ Ho.out Hy.out)), by (repeat (first | exact Below.refl _ _ | assumption | refine Below.drew ?_ | refine Bl.alloc ?_ _ | refine below_drewN ?_ _ | refine Bl.chain ?_ (by assumption) (Nat.le_refl _)))⟩
      · go_enter Try.func11, Try.ntmps11
        (go_wp2_with fail; refine Cl.p (r20Is_calls p 3 _ hp) ?_)
        rw [Ht.out]
        (go_wp2_with fail; refine Cl.p (r21Carry_calls p _ hp) ?_)
        (go_wp2_with fail; refine Cl.p (refSigned_calls a _ ha) ?_)
        (go_wp2_with fail; refine Cl.p (refSigned_calls b _ hb) ?_)
        (go_wp2_with fail; refine Cl.p (r21Carry_calls p _ hp) ?_)
        (go_wp2_with fail; refine Cl.m (r20Set_calls p 0 _ _ hp) ?_; intro w1 hb1)
        (go_wp2_with fail; refine Cl.m (r20Set_calls _ 6 _ _ (wth_lt hp)) ?_; intro w2 hb2)
        (go_wp2_with fail; refine Cl.m (r20ResultX_calls _ (baddR a b p) _ _ (by first | exact Hr.out | (have := Hr.out; omega)) (wth_lt (wth_lt hp)) hR) ?_; intro w3 hb3)
        go_wp2_with fail
        go_ret3
        exact ⟨ret_sum (by first | exact Hr.out | (have := Hr.out; omega)) (congrArg (Nat.cast (R := Int)) (HP.out _ _ rfl Hy.out)), by (repeat (first | exact Below.refl _ _ | assumption | refine Below.drew ?_ | refine Bl.alloc ?_ _ | refine below_drewN ?_ _ | refine Bl.chain ?_ (by assumption) (Nat.le_refl _)))⟩
  · have e : sumV (addR a b p) (addP a b p) true = .tuple #[.int .u8 (daddR a b p : Nat), .int .u8 (daddP a b p : Nat), .bool true] := by unfold sumV addR addP; rw [ht]; rfl
    have hR := daddR_lt a b p
    have hP := fun y => dadd_ref a b p y
    have hl1 : a % 16 + b % 16 + car p < 10 → dlo a b (car p) = a % 16 + b % 16 + car p := fun h => if_pos h
    have hl2 : ¬ a % 16 + b % 16 + car p < 10 → dlo a b (car p) = a % 16 + b % 16 + car p + 6 := fun h => if_neg h
    have hh1 : ∀ k, (if 16 ≤ dlo a b (car p) then 1 else 0) = k → a / 16 + b / 16 + k < 10 → dhi a b (car p) = a / 16 + b / 16 + k := fun k hk h => by unfold dhi; rw [hk]; exact if_pos h
    have hh2 : ∀ k, (if 16 ≤ dlo a b (car p) then 1 else 0) = k → ¬ a / 16 + b / 16 + k < 10 → dhi a b (car p) = a / 16 + b / 16 + k + 6 := fun k hk h => by unfold dhi; rw [hk]; exact if_neg h
    have hd : daddR a b p = dhi a b (car p) % 16 * 16 + dlo a b (car p) % 16 := rfl
    rw [e]
    have Ht := hide ht
    have HP := hide hP
    generalize dhi a b (car p) = H at *
    generalize dlo a b (car p) = L at *
    have Hd := hide hd
    clear e ht hP hd
    by_cases h1 : a % 16 + b % 16 + car p < 10
    · have hL := hl1 h1
      have hk : (if 16 ≤ L then 1 else 0) = 0 := if_neg (by omega)
      by_cases h2 : a / 16 + b / 16 + 0 < 10
      · have hH := hh1 0 hk h2
        have HH := hide hH
        have HL := hide hL
        clear hH hL hk hl1 hl2 hh1 hh2
        go_enter Try.func11, Try.ntmps11
        (go_wp2_with fail; refine Cl.p (r20Is_calls p 3 _ hp) ?_)
        rw [Ht.out]
        (go_wp2_with fail; refine Cl.p (r21Carry_calls p _ hp) ?_)
        (go_wp2_with fail; refine Cl.m (r20Set_calls p 0 _ _ hp) ?_; intro w1 hb1)
        (go_wp2_with fail; refine Cl.m (r20ResultX_calls _ (daddR a b p) _ _ (by have := Hd.out; have := HH.out; have := HL.out; omega) (wth_lt hp) hR) ?_; intro w2 hb2)
        go_wp2_with fail
        go_ret3
        exact ⟨ret_sum (by have := Hd.out; have := HH.out; have := HL.out; omega) (congrArg (Nat.cast (R := Int)) (HP.out _ (by rw [decide_eq_decide]; have := HH.out; omega))), by (repeat (first | exact Below.refl _ _ | assumption | refine Below.drew ?_ | refine Bl.alloc ?_ _ | refine below_drewN ?_ _ | refine Bl.chain ?_ (by assumption) (Nat.le_refl _)))⟩
      · have hH := hh2 0 hk h2
        have HH := hide hH
        have HL := hide hL
        clear hH hL hk hl1 hl2 hh1 hh2
        go_enter Try.func11, Try.ntmps11
        (go_wp2_with fail; refine Cl.p (r20Is_calls p 3 _ hp) ?_)
        rw [Ht.out]
        (go_wp2_with fail; refine Cl.p (r21Carry_calls p _ hp) ?_)
        (go_wp2_with fail; refine Cl.m (r20Set_calls p 0 _ _ hp) ?_; intro w1 hb1)
        (go_wp2_with fail; refine Cl.m (r20ResultX_calls _ (daddR a b p) _ _ (by have := Hd.out; have := HH.out; have := HL.out; omega) (wth_lt hp) hR) ?_; intro w2 hb2)
        go_wp2_with fail
        go_ret3
        exact ⟨ret_sum (by have := Hd.out; have := HH.out; have := HL.out; omega) (congrArg (Nat.cast (R := Int)) (HP.out _ (by rw [decide_eq_decide]; have := HH.out; omega))), by (repeat (first | exact Below.refl _ _ | assumption | refine Below.drew ?_ | refine Bl.alloc ?_ _ | refine below_drewN ?_ _ | refine Bl.chain ?_ (by assumption) (Nat.le_refl _)))⟩
    · have hL := hl2 h1
      have hk : (if 16 ≤ L then 1 else 0) = 1 := if_pos (by omega)
      by_cases h2 : a / 16 + b / 16 + 1 < 10
      · have hH := hh1 1 hk h2
        have HH := hide hH
        have HL := hide hL
        clear hH hL hk hl1 hl2 hh1 hh2
        go_enter Try.func11, Try.ntmps11
        (go_wp2_with fail; refine Cl.p (r20Is_calls p 3 _ hp) ?_)
        rw [Ht.out]
        (go_wp2_with fail; refine Cl.p (r21Carry_calls p _ hp) ?_)
        (go_wp2_with fail; refine Cl.m (r20Set_calls p 0 _ _ hp) ?_; intro w1 hb1)
        (go_wp2_with fail; refine Cl.m (r20ResultX_calls _ (daddR a b p) _ _ (by have := Hd.out; have := HH.out; have := HL.out; omega) (wth_lt hp) hR) ?_; intro w2 hb2)
        go_wp2_with fail
        go_ret3
        exact ⟨ret_sum (by have := Hd.out; have := HH.out; have := HL.out; omega) (congrArg (Nat.cast (R := Int)) (HP.out _ (by rw [decide_eq_decide]; have := HH.out; omega))), by (repeat (first | exact Below.refl _ _ | assumption | refine Below.drew ?_ | refine Bl.alloc ?_ _ | refine below_drewN ?_ _ | refine Bl.chain ?_ (by assumption) (Nat.le_refl _)))⟩
      · have hH := hh2 1 hk h2
        have HH := hide hH
        have HL := hide hL
        clear hH hL hk hl1 hl2 hh1 hh2
        go_enter Try.func11, Try.ntmps11
        (go_wp2_with fail; refine Cl.p (r20Is_calls p 3 _ hp) ?_)
        rw [Ht.out]
        (go_wp2_with fail; refine Cl.p (r21Carry_calls p _ hp) ?_)
        (go_wp2_with fail; refine Cl.m (r20Set_calls p 0 _ _ hp) ?_; intro w1 hb1)
        (go_wp2_with fail; refine Cl.m (r20ResultX_calls _ (daddR a b p) _ _ (by have := Hd.out; have := HH.out; have := HL.out; omega) (wth_lt hp) hR) ?_; intro w2 hb2)
        go_wp2_with fail
        go_ret3
        exact ⟨ret_sum (by have := Hd.out; have := HH.out; have := HL.out; omega) (congrArg (Nat.cast (R := Int)) (HP.out _ (by rw [decide_eq_decide]; have := HH.out; omega))), by (repeat (first | exact Below.refl _ _ | assumption | refine Below.drew ?_ | refine Bl.alloc ?_ _ | refine below_drewN ?_ _ | refine Bl.chain ?_ (by assumption) (Nat.le_refl _)))⟩

theorem dsub_ref (a b p : Nat) (y : Bool) (hy : decide (0 ≤ shi a b (car p)) = y) : fres (wth p 0 y) (dsubR a b p) = dsubP a b p := by
  unfold dsubP ofF
  rw [hy, wth0]

set_option maxHeartbeats 4000000 in
theorem r21Sub_calls (a b p : Nat) (w : World) (ha : a < 256) (hb : b < 256) (hp : p < 256) :
    Calls Try.prog 12 #[.int .u8 (a : Int), .int .u8 (b : Int), .int .u8 (p : Int)] w fun e w' => e = .returned (sumV (subR a b p) (subP a b p) (tb p 3)) ∧ Below w.heap.size w w' := by
  have hc := car_le p
  cases ht : tb p 3
  · have e : sumV (subR a b p) (subP a b p) false = sumV (addR a (255 - b) p) (addP a (255 - b) p) (tb p 3) := by unfold subR subP addR addP; rw [ht]; rfl
    have hn : (255 : Int) - (b : Int) = ((255 - b : Nat) : Int) := by omega
    have Hn := hide hn
    have Ht := hide ht
    rw [e]
    clear hn ht e
    go_enter Try.func12, Try.ntmps12
    (go_wp2_with fail; refine Cl.p (r20Is_calls p 3 _ hp) ?_)
    rw [Ht.out]
    go_wp2_with fail
    rw [Hn.out]
    refine Cl.m (r21Add_calls a (255 - b) p _ ha (by omega) hp) ?_
    intro w1 hb1
    rw [Ht.out]
    unfold sumV
    go_wp2_with fail
    go_ret3
    exact ⟨by rw [Ht.out]; rfl, hb1⟩
  · have e : sumV (subR a b p) (subP a b p) true = .tuple #[.int .u8 (dsubR a b p : Nat), .int .u8 (dsubP a b p : Nat), .bool true] := by unfold sumV subR subP; rw [ht]; rfl
    have hR := dsubR_lt a b p
    have hP := fun y => dsub_ref a b p y
    have hlo : slo a b (car p) = (a % 16 : Nat) - (b % 16 : Nat) - (1 - (car p : Int)) := rfl
    have hhi1 : slo a b (car p) < 0 → shi a b (car p) = (a / 16 : Nat) - (b / 16 : Nat) - 1 := fun h => by unfold shi; rw [if_pos h]
    have hhi2 : ¬ slo a b (car p) < 0 → shi a b (car p) = (a / 16 : Nat) - (b / 16 : Nat) := fun h => by unfold shi; rw [if_neg h]; omega
    have hd : dsubR a b p = (sdig (shi a b (car p)) % 16 * 16 + sdig (slo a b (car p)) % 16).toNat := rfl
    unfold sdig at hd
    rw [e]
    have Ht := hide ht
    have HP := hide hP
    generalize shi a b (car p) = H at *
    generalize slo a b (car p) = L at *
    clear e ht hP
    by_cases h1 : L < 0
    · have hH := hhi1 h1
      rw [if_neg (show ¬ 0 ≤ L by omega)] at hd
      have h1' : (a : Int) % 16 - (b : Int) % 16 - 1 + (car p : Int) < 0 := by omega
      by_cases h2 : H < 0
      · rw [if_neg (show ¬ 0 ≤ H by omega)] at hd
        have h2' : (a : Int) / 16 - (b : Int) / 16 - 1 < 0 := by omega
        have HH := hide hH
        have HL := hide hlo
        have Hd := hide hd
        clear hH hlo hd hhi1 hhi2
        go_enter Try.func12, Try.ntmps12
        (go_wp2_with fail; refine Cl.p (r20Is_calls p 3 _ hp) ?_)
        rw [Ht.out]
        (go_wp2_with fail; refine Cl.p (r21Carry_calls p _ hp) ?_)
        (go_wp2_with fail; refine Cl.m (r20Set_calls p 0 _ _ hp) ?_; intro w1 hb1)
        (go_wp2_with fail; refine Cl.m (r20ResultX_calls _ (dsubR a b p) _ _ (by have := Hd.out; have := HH.out; have := HL.out; omega) (wth_lt hp) hR) ?_; intro w2 hb2)
        go_wp2_with fail
        go_ret3
        exact ⟨ret_sum (by have := Hd.out; have := HH.out; have := HL.out; omega) (congrArg (Nat.cast (R := Int)) (HP.out _ (by have := HH.out; first | (rw [Bool.eq_iff_iff]; simp; omega) | (simp; omega)))), by (repeat (first | exact Below.refl _ _ | assumption | refine Below.drew ?_ | refine Bl.alloc ?_ _ | refine below_drewN ?_ _ | refine Bl.chain ?_ (by assumption) (Nat.le_refl _)))⟩
      · rw [if_pos (show 0 ≤ H by omega)] at hd
        have h2' : ¬ (a : Int) / 16 - (b : Int) / 16 - 1 < 0 := by omega
        have HH := hide hH
        have HL := hide hlo
        have Hd := hide hd
        clear hH hlo hd hhi1 hhi2
        go_enter Try.func12, Try.ntmps12
        (go_wp2_with fail; refine Cl.p (r20Is_calls p 3 _ hp) ?_)
        rw [Ht.out]
        (go_wp2_with fail; refine Cl.p (r21Carry_calls p _ hp) ?_)
        (go_wp2_with fail; refine Cl.m (r20Set_calls p 0 _ _ hp) ?_; intro w1 hb1)
        (go_wp2_with fail; refine Cl.m (r20ResultX_calls _ (dsubR a b p) _ _ (by have := Hd.out; have := HH.out; have := HL.out; omega) (wth_lt hp) hR) ?_; intro w2 hb2)
        go_wp2_with fail
        go_ret3
        exact ⟨ret_sum (by have := Hd.out; have := HH.out; have := HL.out; omega) (congrArg (Nat.cast (R := Int)) (HP.out _ (by have := HH.out; first | (rw [Bool.eq_iff_iff]; simp; omega) | (simp; omega)))), by (repeat (first | exact Below.refl _ _ | assumption | refine Below.drew ?_ | refine Bl.alloc ?_ _ | refine below_drewN ?_ _ | refine Bl.chain ?_ (by assumption) (Nat.le_refl _)))⟩
    · have hH := hhi2 h1
      rw [if_pos (show 0 ≤ L by omega)] at hd
      have h1' : ¬ (a : Int) % 16 - (b : Int) % 16 - 1 + (car p : Int) < 0 := by omega
      by_cases h2 : H < 0
      · rw [if_neg (show ¬ 0 ≤ H by omega)] at hd
        have h2' : (a : Int) / 16 - (b : Int) / 16 < 0 := by omega
        have HH := hide hH
        have HL := hide hlo
        have Hd := hide hd
        clear hH hlo hd hhi1 hhi2
        go_enter Try.func12, Try.ntmps12
        (go_wp2_with fail; refine Cl.p (r20Is_calls p 3 _ hp) ?_)
        rw [Ht.out]
        (go_wp2_with fail; refine Cl.p (r21Carry_calls p _ hp) ?_)
        (go_wp2_with fail; refine Cl.m (r20Set_calls p 0 _ _ hp) ?_; intro w1 hb1)
        (go_wp2_with fail; refine Cl.m (r20ResultX_calls _ (dsubR a b p) _ _ (by have := Hd.out; have := HH.out; have := HL.out; omega) (wth_lt hp) hR) ?_; intro w2 hb2)
        go_wp2_with fail
        go_ret3
        exact ⟨ret_sum (by have := Hd.out; have := HH.out; have := HL.out; omega) (congrArg (Nat.cast (R := Int)) (HP.out _ (by have := HH.out; first | (rw [Bool.eq_iff_iff]; simp; omega) | (simp; omega)))), by (repeat (first | exact Below.refl _ _ | assumption | refine Below.drew ?_ | refine Bl.alloc ?_ _ | refine below_drewN ?_ _ | refine Bl.chain ?_ (by assumption) (Nat.le_refl _)))⟩
      · rw [if_pos (show 0 ≤ H by omega)] at hd
        have h2' : ¬ (a : Int) / 16 - (b : Int) / 16 < 0 := by omega
        have HH := hide hH
        have HL := hide hlo
        have Hd := hide hd
        clear hH hlo hd hhi1 hhi2
        go_enter Try.func12, Try.ntmps12
        (go_wp2_with fail; refine Cl.p (r20Is_calls p 3 _ hp) ?_)
        rw [Ht.out]
        (go_wp2_with fail; refine Cl.p (r21Carry_calls p _ hp) ?_)
        (go_wp2_with fail; refine Cl.m (r20Set_calls p 0 _ _ hp) ?_; intro w1 hb1)
        (go_wp2_with fail; refine Cl.m (r20ResultX_calls _ (dsubR a b p) _ _ (by have := Hd.out; have := HH.out; have := HL.out; omega) (wth_lt hp) hR) ?_; intro w2 hb2)
        go_wp2_with fail
        go_ret3
        exact ⟨ret_sum (by have := Hd.out; have := HH.out; have := HL.out; omega) (congrArg (Nat.cast (R := Int)) (HP.out _ (by have := HH.out; first | (rw [Bool.eq_iff_iff]; simp; omega) | (simp; omega)))), by (repeat (first | exact Below.refl _ _ | assumption | refine Below.drew ?_ | refine Bl.alloc ?_ _ | refine below_drewN ?_ _ | refine Bl.chain ?_ (by assumption) (Nat.le_refl _)))⟩

theorem r21Compare_calls (r b p : Nat) (w : World) (hr : r < 256) (hb : b < 256) (hp : p < 256) :
    Calls Try.prog 14 #[.int .u8 (r : Int), .int .u8 (b : Int), .int .u8 (p : Int)] w fun e w' => e = .returned (.int .u8 (cmpP r b p : Nat)) ∧ Below w.heap.size w w' := by
  have h2 : fres (wth p 0 (decide (b ≤ r))) ((r + 256 - b) % 256) = cmpP r b p := by
    unfold cmpP ofF
    rw [wth0]
  have H2 := hide h2
  clear h2
  go_enter Try.func14, Try.ntmps14
  (go_wp2_with fail; refine Cl.m (r20Set_calls p 0 _ _ hp) ?_; intro w1 hb1)
  (go_wp2_with fail; refine Cl.m (r20ResultX_calls _ ((r + 256 - b) % 256) _ _ (by omega) (wth_lt hp) (Nat.mod_lt _ (by omega))) ?_; intro w2 hb2)
  go_wp2_with fail
  go_ret
  exact ⟨ret_int (congrArg (Nat.cast (R := Int)) H2.out), by (repeat (first | exact Below.refl _ _ | assumption | refine Below.drew ?_ | refine Bl.alloc ?_ _ | refine below_drewN ?_ _ | refine Bl.chain ?_ (by assumption) (Nat.le_refl _)))⟩
end Go.Proofs.Ytnjnhfkfpahniaa
