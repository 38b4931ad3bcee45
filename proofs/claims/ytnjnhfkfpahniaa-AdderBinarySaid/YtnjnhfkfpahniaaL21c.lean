/-
  gannetlaw21: AdderDecimal.
-/
import Derived.Test.YtnjnhfkfpahniaaL21
import Derived.Test.YtnjnhfkfpahniaaLong21
namespace Go.Proofs.Ytnjnhfkfpahniaa
open Go.RowKit Pl

theorem r21DigitsX_calls (N : Nat) (x : Int) (w : World) (hx : x = N) (hn : N ≤ 18446744073709551615) :
    Calls Try.prog 17 #[.int .u64 x, .int .i64 5] w fun e w' => ∃ a c, e = .returned (.slice a 5 c) ∧ NumsAt w' .u8 a 5 (fun i => (dgt N i : Int)) ∧ Below w.heap.size w w' := by
  subst hx
  exact r21Digits_calls N 5 w hn (by omega) (by omega)
theorem adDigitsX_calls (N : Nat) (x : Int) (w : World) (hx : x = N) (hn : N ≤ 18446744073709551615) :
    Calls Try.prog 15 #[.int .u64 x, .int .i64 5] w fun e w' => ∃ a, e = .returned (.slice a 5 5) ∧ NumsAt w' .u8 a 5 (fun i => (dgt N i : Int)) ∧ Below w.heap.size w w' := by
  subst hx
  exact adDigits_calls N 5 w hn (by omega) (by omega)
theorem dgt_lt (n i : Nat) : dgt n i < 256 := pk_lt _ (Nat.mod_lt _ (by omega))
theorem dgt_pkd (n : Nat) : dgt n = fun i => pkd (n / 100 ^ i % 100) := rfl
theorem tb0_car (q : Nat) : tb q 0 = decide (car q = 1) := by unfold car; cases tb q 0 <;> rfl

theorem decS (m n p c : Nat) (hc : car p = c) (h3 : tb p 3 = true) : ∀ i, i < 5 → ((lgR false (dgt m) (dgt n) p i : Nat) : Int) = ((dgt (m + n + c) i : Nat) : Int) := fun i _ => by
  subst hc
  rw [dgt_pkd m, dgt_pkd n, dec_sum_digit m n p h3 i]
  rfl
theorem decQ (m n p c : Nat) (hm : m < 4294967296) (hn : n < 4294967296) (hc : car p = c) (h3 : tb p 3 = true) : tb (lgP false (dgt m) (dgt n) p 5) 0 = false := by
  have h := (dec_sum m n p h3 5).2
  have := car_le p
  have := car_le (lgP false (dgt m) (dgt n) p 5)
  rw [tb0_car]
  rw [dgt_pkd m, dgt_pkd n] at *
  apply decide_eq_false
  omega
theorem decD (m n p c : Nat) (hm : m < 4294967296) (hn : n < 4294967296) (hc : car p = c) (h3 : tb p 3 = true) : ∀ i, i < 5 → ((lgR true (dgt m) (dgt n) p i : Nat) : Int) = ((dgt (m + c + 10000000000 - n - 1) i : Nat) : Int) := fun i hi => by
  subst hc
  have := car_le p
  rw [dgt_pkd m, dgt_pkd n, dec_diff_digit m n p h3 i]
  unfold dgt
  show ((pkd _ : Nat) : Int) = ((pkd _ : Nat) : Int)
  have e : ((((m : Int) - n - (1 - (car p : Int))) / ((100 ^ i : Nat) : Int) % 100).toNat) = (m + car p + 10000000000 - n - 1) / 100 ^ i % 100 := by
    have : i = 0 ∨ i = 1 ∨ i = 2 ∨ i = 3 ∨ i = 4 := by omega
    rcases this with rfl | rfl | rfl | rfl | rfl
    all_goals
      simp only [Nat.reducePow]
      omega
  rw [e]
theorem decT (m n p c : Nat) (hm : m < 4294967296) (hn : n < 4294967296) (hc : car p = c) (h3 : tb p 3 = true) : tb (lgP true (dgt m) (dgt n) p 5) 0 = decide (10000000000 ≤ m + c + 10000000000 - n - 1) := by
  subst hc
  have h := (dec_diff m n p h3 5).2
  have := car_le p
  have := car_le (lgP true (dgt m) (dgt n) p 5)
  rw [tb0_car, decide_eq_decide]
  rw [dgt_pkd m, dgt_pkd n] at *
  simp only [Nat.reducePow] at h
  omega

theorem adderDecimalX_calls (m n p c : Nat) (inn : Bool) (w : World) (hm : m < 4294967296) (hn : n < 4294967296) (hpc : (inn = false ∧ p = 8 ∧ c = 0) ∨ (inn = true ∧ p = 9 ∧ c = 1)) :
    Calls Try.prog 6 #[.int .u32 (m : Int), .int .u32 (n : Int), .bool inn] w fun e w' => e = .returned (.bool true) ∧ Below w.heap.size w w' := by
  have hc : car p = c := by rcases hpc with ⟨_, rfl, rfl⟩ | ⟨_, rfl, rfl⟩ <;> decide
  have h3 : tb p 3 = true := by rcases hpc with ⟨_, rfl, rfl⟩ | ⟨_, rfl, rfl⟩ <;> decide
  have hp : p < 256 := by rcases hpc with ⟨_, rfl, rfl⟩ | ⟨_, rfl, rfl⟩ <;> decide
  have hS := decS m n p c hc h3
  have hQ := decQ m n p c hm hn hc h3
  have hD := decD m n p c hm hn hc h3
  have hT := decT m n p c hm hn hc h3
  have hL := fun sub a b ca cb W hA hB => adLong_calls a b 5 ca cb p sub (dgt m) (dgt n) W (by omega) hp hA hB (fun _ _ => dgt_lt _ _) (fun _ _ => dgt_lt _ _)
  have HS := hide hS
  have HQ := hide hQ
  have HD := hide hD
  have HT := hide hT
  have HL := hide hL
  clear hS hQ hD hT hL h3 hc
  rcases hpc with ⟨rfl, rfl, hc0⟩ | ⟨rfl, rfl, hc0⟩
  all_goals
    have HC := hide hc0
    clear hc0
    go_enter Try.func6, Try.ntmps6
    (go_wp2_with fail; refine Cl.m (live21_calls _) ?_; intro w1 hb1)
    go_wp2_with fail
    refine (r21DigitsX_calls m _ _ (by omega) (by omega)).mono ?_
    rintro e w2 ⟨a, ca, rfl, hna, hb2⟩
    go_wp2_with fail
    refine (r21DigitsX_calls n _ _ (by omega) (by omega)).mono ?_
    rintro e w3 ⟨b, cb, rfl, hnb, hb3⟩
    go_wp2_with fail
    refine (HL.out false a b ca cb _ (hna.below hb3 (Nat.le_refl _)) hnb).mono ?_
    rintro e w4 ⟨s, cs, rfl, hns, hb4⟩
    go_wp2_with fail
    refine (HL.out true a b ca cb _ ((hna.below hb3 (Nat.le_refl _)).below hb4 (Nat.le_refl _)) (hnb.below hb4 (Nat.le_refl _))).mono ?_
    rintro e w5 ⟨d, cd, rfl, hnd, hb5⟩
    go_wp2_with fail
    refine (adDigitsX_calls m _ _ (by omega) (by omega)).mono ?_
    rintro e w6 ⟨a', rfl, hna', hb6⟩
    go_wp2_with fail
    refine Cl.m (refSame_calls a' a 5 5 5 ca _ _ _ hna' ((((hna.below hb3 (Nat.le_refl _)).below hb4 (Nat.le_refl _)).below hb5 (Nat.le_refl _)).below hb6 (Nat.le_refl _)) (by decide) (by decide) rfl (fun _ _ => rfl)) ?_
    intro w7 hb7
    go_wp2_with fail
    refine (r21DigitsX_calls (m + n + c) _ _ (by have := HC.out; omega) (by have := HC.out; omega)).mono ?_
    rintro e w8 ⟨x, cx, rfl, hnx, hb8⟩
    go_wp2_with fail
    refine Cl.m (refSame_calls s x 5 5 cs cx _ _ _ ((((hns.below hb5 (Nat.le_refl _)).below hb6 (Nat.le_refl _)).below hb7 (Nat.le_refl _)).below hb8 (Nat.le_refl _)) hnx (by decide) (by decide) rfl HS.out) ?_
    intro w9 hb9
    (go_wp2_with fail; refine Cl.p (r20Is_calls _ 0 _ (lgP_lt _ _ _ (by decide) _)) ?_)
    rw [HQ.out]
    go_wp2_with fail
    refine (r21DigitsX_calls (m + c + 10000000000 - n - 1) _ _ (by have := HC.out; omega) (by have := HC.out; omega)).mono ?_
    rintro e w10 ⟨y, cy, rfl, hny, hb10⟩
    go_wp2_with fail
    refine Cl.m (refSame_calls d y 5 5 cd cy _ _ _ (((((hnd.below hb6 (Nat.le_refl _)).below hb7 (Nat.le_refl _)).below hb8 (Nat.le_refl _)).below hb9 (Nat.le_refl _)).below hb10 (Nat.le_refl _)) hny (by decide) (by decide) rfl HD.out) ?_
    intro w11 hb11
    (go_wp2_with fail; refine Cl.p (r20Is_calls _ 0 _ (lgP_lt _ _ _ (by decide) _)) ?_)
    rw [HT.out]
    go_wp2_with fail
    go_ret
    first | exact ⟨rfl, by (repeat (first | exact Below.refl _ _ | assumption | refine Below.drew ?_ | refine Bl.alloc ?_ _ | refine below_drewN ?_ _ | refine Bl.chain ?_ (by assumption) (Nat.le_refl _)))⟩ | (refine ⟨?_, by (repeat (first | exact Below.refl _ _ | assumption | refine Below.drew ?_ | refine Bl.alloc ?_ _ | refine below_drewN ?_ _ | refine Bl.chain ?_ (by assumption) (Nat.le_refl _)))⟩; have := HC.out; simp; omega)
theorem adderDecimal_calls (m n : Nat) (inn : Bool) (w : World) (hm : m < 4294967296) (hn : n < 4294967296) :
    Calls Try.prog 6 #[.int .u32 (m : Int), .int .u32 (n : Int), .bool inn] w fun e w' => e = .returned (.bool true) ∧ Below w.heap.size w w' := by
  cases inn
  · exact adderDecimalX_calls m n 8 0 false w hm hn (Or.inl ⟨rfl, rfl, rfl⟩)
  · exact adderDecimalX_calls m n 9 1 true w hm hn (Or.inr ⟨rfl, rfl, rfl⟩)
section
open Go.ChangeShapes Go.WideShapes Go.ChangeAt
variable {H : Type} {enc : TypeId × Value → H} {W : World} {base : Nat}
theorem walk_AdderDecimal {v0 v1 v2 : Value} {d0 d1 d2 : DataW H} {p0 p1 p2 : List MemPlace}
    (_hsh : W.ShapedOpen Try.prog) (_hsz : (DataW.weightsEach Try.prog [36, 36, 4] [d0, d1, d2]).all (· ≤ reachBytes) = true)
    (hv0 : Value.okWide Try.prog W .any base 36 v0) (hd0 : DataW.Trod enc Try.prog W 0 (fun _ => true) true 36 v0 d0 p0) (hv1 : Value.okWide Try.prog W .any base 36 v1) (hd1 : DataW.Trod enc Try.prog W 0 (fun _ => true) true 36 v1 d1 p1) (hv2 : Value.okWide Try.prog W .any base 4 v2) (hd2 : DataW.Trod enc Try.prog W 0 (fun _ => true) true 4 v2 d2 p2) :
    Calls Try.prog 6 #[v0, v1, v2] W fun e W' => e = .returned (.bool true) ∧ Below W.heap.size W W' := by
  obtain ⟨x0, rfl, h0⟩ := open_u32 Try.underlying36 hv0 hd0
  obtain ⟨x1, rfl, h1⟩ := open_u32 Try.underlying36 hv1 hd1
  obtain ⟨x2, rfl⟩ := open_yes Try.underlying4 hv2 hd2
  exact adderDecimal_calls x0 x1 x2 W h0 h1
end
end Go.Proofs.Ytnjnhfkfpahniaa
