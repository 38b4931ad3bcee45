/-
  gannetlaw21: AdderBinary.
-/
import Derived.Test.YtnjnhfkfpahniaaL21c
import Derived.Test.YtnjnhfkfpahniaaBbin
namespace Go.Proofs.Ytnjnhfkfpahniaa
open Go.RowKit Pl

def byo (m n : Nat) : List Int := (List.range n).map fun i => ((m / 256 ^ i % 256 : Nat) : Int)
theorem byo_succ (m n : Nat) : (byo m (n + 1)).map (Value.int .u8) = (byo m n).map (Value.int .u8) ++ [.int .u8 ((m / 256 ^ n % 256 : Nat) : Int)] := by
  unfold byo
  simp [List.range_succ]
theorem byo_get (m n i : Nat) (h : i < n) : (byo m n).getD i 0 = ((m / 256 ^ i % 256 : Nat) : Int) := by
  unfold byo
  simp [List.getD, h]
def byt (m : Nat) : Nat → Nat := fun i => m / 256 ^ i % 256
theorem byt_lt (m i : Nat) : byt m i < 256 := Nat.mod_lt _ (by omega)
theorem bytN (m : Nat) (o : Option Addr) (w : World) (h : NumsAt w .u8 o 8 (fun i => (byo m 8).getD i 0)) : NumsAt w .u8 o 8 (fun i => (byt m i : Int)) := fun i hi => by
  have := h i hi
  dsimp only at this ⊢
  rwa [byo_get m 8 i hi] at this

theorem binS (m n : Nat) (hm : m ≤ 18446744073709551615) (hn : n ≤ 18446744073709551615) : ∀ i, i < 8 → lgR false (byt m) (byt n) 0 i = byt ((m + n) % 18446744073709551616) i := fun i hi => by
  have h := bin_sum_byte m n 0 (by decide) i
  have hc : car 0 = 0 := by decide
  rw [hc] at h
  show lgR false (fun i => m / 256 ^ i % 256) (fun i => n / 256 ^ i % 256) 0 i = _
  rw [h]
  unfold byt
  have : i = 0 ∨ i = 1 ∨ i = 2 ∨ i = 3 ∨ i = 4 ∨ i = 5 ∨ i = 6 ∨ i = 7 := by omega
  rcases this with rfl | rfl | rfl | rfl | rfl | rfl | rfl | rfl
  all_goals
    simp only [Nat.reducePow]
    omega
theorem binQ (m n : Nat) (hm : m ≤ 18446744073709551615) (hn : n ≤ 18446744073709551615) : tb (lgP false (byt m) (byt n) 0 8) 0 = decide ((m + n) % 18446744073709551616 < m) := by
  have h := (bin_sum m n 0 (by decide) 8).2
  have hc : car 0 = 0 := by decide
  rw [hc] at h
  have := car_le (lgP false (byt m) (byt n) 0 8)
  rw [tb0_car, decide_eq_decide]
  show car (lgP false (fun i => m / 256 ^ i % 256) (fun i => n / 256 ^ i % 256) 0 8) = 1 ↔ _
  simp only [Nat.reducePow] at h
  omega
theorem binD (x n : Nat) (hx : x ≤ 18446744073709551615) (hn : n ≤ 18446744073709551615) : ∀ i, i < 8 → lgR true (byt x) (byt n) 1 i = byt ((x + 18446744073709551616 - n) % 18446744073709551616) i := fun i hi => by
  have h := bin_diff_byte x n 1 (by decide) i
  have hc : car 1 = 1 := by decide
  rw [hc] at h
  have e : ((lgR true (byt x) (byt n) 1 i : Nat) : Int) = ((byt ((x + 18446744073709551616 - n) % 18446744073709551616) i : Nat) : Int) := by
    show ((lgR true (fun i => x / 256 ^ i % 256) (fun i => n / 256 ^ i % 256) 1 i : Nat) : Int) = _
    rw [h]
    unfold byt
    have : i = 0 ∨ i = 1 ∨ i = 2 ∨ i = 3 ∨ i = 4 ∨ i = 5 ∨ i = 6 ∨ i = 7 := by omega
    rcases this with rfl | rfl | rfl | rfl | rfl | rfl | rfl | rfl
    all_goals
      simp only [Nat.reducePow]
      omega
  omega
theorem binT (x n : Nat) (hx : x ≤ 18446744073709551615) (hn : n ≤ 18446744073709551615) : tb (lgP true (byt x) (byt n) 1 8) 0 = decide (n ≤ x) := by
  have h := (bin_diff x n 1 (by decide) 8).2
  have hc : car 1 = 1 := by decide
  rw [hc] at h
  have := car_le (lgP true (byt x) (byt n) 1 8)
  rw [tb0_car, decide_eq_decide]
  show car (lgP true (fun i => x / 256 ^ i % 256) (fun i => n / 256 ^ i % 256) 1 8) = 1 ↔ _
  simp only [Nat.reducePow] at h
  omega

/-- The number that k bytes from the top make. -/
def tops (x k : Nat) : Nat := x / 256 ^ (8 - k)
theorem tops_succ (x k : Nat) (hk : k < 8) : tops x (k + 1) = tops x k * 256 + byt x (7 - k) := by
  unfold tops byt
  have h : 8 - k = (7 - k) + 1 := by omega
  rw [show 8 - (k + 1) = 7 - k from by omega, h, Nat.pow_succ, ← Nat.div_div_eq_div_mul]
  omega
theorem tops_zero (x : Nat) (hx : x ≤ 18446744073709551615) : tops x 0 = 0 := by
  unfold tops
  exact Nat.div_eq_of_lt (by simp only [Nat.reducePow, Nat.reduceSub]; omega)
theorem tops_all (x : Nat) : tops x 8 = x := by unfold tops; simp

theorem pow8 (k : Nat) : (2 : Int) ^ (8 * k) = ((256 ^ k : Nat) : Int) := by
  rw [Nat.mul_comm, Nat.mul_comm k 8, Int.pow_mul]
  norm_cast
theorem sh_byte (m k : Nat) : (m : Int) / 2 ^ (8 * k) % 256 = ((byt m k : Nat) : Int) := by
  rw [pow8]
  unfold byt
  omega
theorem byo_succ' (m n : Nat) (x : Int) (h : x = ((byt m n : Nat) : Int)) : (byo m (n + 1)).map (Value.int .u8) = (byo m n).map (Value.int .u8) ++ [.int .u8 x] := by
  subst h
  exact byo_succ m n
set_option maxRecDepth 100000 in
set_option maxHeartbeats 4000000 in
theorem adderBinary_calls (m n : Nat) (w : World) (hm : m ≤ 18446744073709551615) (hn : n ≤ 18446744073709551615) :
    Calls Try.prog 7 #[.int .u64 (m : Int), .int .u64 (n : Int)] w fun e w' => e = .returned (.bool true) ∧ Below w.heap.size w w' := by
  obtain ⟨i0, hi, hz0, hz1, hz2⟩ := info_parts infoU8d
  have hsm := hide (sh_byte m)
  have hsn := hide (sh_byte n)
  go_enter Try.func7, Try.ntmps7
  (go_wp2_with fail; refine Cl.m (live21_calls _) ?_; intro w1 hb1)
  go_wp2_with fail
  go_loopw [5, 6, 7] (fun a b i wr => ∃ k : Nat, k ≤ 8 ∧ i = .int .i64 (k : Int) ∧ wr.ownsRow w.heap.size 5 1 a k ((byo m k).map (Value.int .u8)) ∧ wr.ownsRow w.heap.size 5 1 b k ((byo n k).map (Value.int .u8)) ∧ ((a.ownBlock = none ∧ b.ownBlock = none) ∨ a.ownBlock ≠ b.ownBlock) ∧ Below w.heap.size w wr) (fun _ _ i _ => 8 - (intOf i).toNat)
  case atStart => exact ⟨0, by omega, rfl, World.ownsRow_nil _ _ _ _, World.ownsRow_nil _ _ _ _, Or.inl ⟨rfl, rfl⟩, by (repeat (first | exact Below.refl _ _ | assumption | refine Below.drew ?_ | refine Bl.alloc ?_ _ | refine below_drewN ?_ _ | refine Bl.chain ?_ (by assumption) (Nat.le_refl _)))⟩
  case round =>
    obtain ⟨k, hk, rfl, hoa, hob, hab, hbel⟩ := hrel
    by_cases hlt : k < 8
    · have hlt' : (k : Int) < 8 := by omega
      have hbz := hbel.size
      have k1 : u6.ownBlock = none ∨ u6.ownBlock ≠ u5.ownBlock := by
        rcases hab with ⟨_, h⟩ | h
        · exact Or.inl h
        · exact Or.inr h.symm
      have hobl := (hob.alloc (.cells #[.int .u8 ((m : Int) / 2 ^ (8 * k) % 256)] 5)).lt
      go_wp2_with (at_builtin; refine wpList_append_lies _ rfl _ _ 28 rfl w.heap.size 5 i0 _ 1 1 Try.underlying28 hi hz0 hz1 hz2 rfl (by decide) u5 k _ rfl (hoa.alloc _) _ 1 1 [.int .u8 ((m : Int) / 2 ^ (8 * k) % 256)] rfl rfl ?c1 ?c2 (by decide) ?c3 ?c4 ?c5 _ rfl ?_)
      case c1 => exact one_new_at _ _ _ _ rfl
      case c2 => exact one_int _ _
      case c3 => unfold maxLen; omega
      case c4 => omega
      case c5 => simp; omega
      intro g1 cap1 w2 hown1 hgrow1 hat1 hl1
      have hob1 := (hob.alloc (.cells #[.int .u8 ((m : Int) / 2 ^ (8 * k) % 256)] 5)).kept hgrow1 k1
      have hb2 := (Bl.alloc hbel (.cells #[.int .u8 ((m : Int) / 2 ^ (8 * k) % 256)] 5)).grown hgrow1 (by simp; omega) (fun j hj => by have := (hoa.lt j hj).1; omega)
      have hdis : u6.ownBlock ≠ some g1 := by
        intro e
        rcases hat1 with h | h
        · rcases hab with ⟨h', _⟩ | h'
          · rw [h'] at h; cases h
          · exact h' (h.trans e.symm)
        · have h3 := (hobl g1 e).2
          try simp at h
          try simp at h3
          omega
      have hb2s := hb2.size
      go_wp2_with (at_builtin; refine wpList_append_lies _ rfl _ _ 28 rfl w.heap.size 5 i0 _ 1 1 Try.underlying28 hi hz0 hz1 hz2 rfl (by decide) u6 k _ rfl (hob1.alloc _) _ 1 1 [.int .u8 ((n : Int) / 2 ^ (8 * k) % 256)] rfl rfl ?c1 ?c2 (by decide) ?c3 ?c4 ?c5 _ rfl ?_)
      case c1 => exact one_new_at _ _ _ _ rfl
      case c2 => exact one_int _ _
      case c3 => unfold maxLen; omega
      case c4 => omega
      case c5 => simp; omega
      intro g2 cap2 w3 hown2 hgrow2 hat2 hl2
      have hoa2 := (hown1.alloc (.cells #[.int .u8 ((n : Int) / 2 ^ (8 * k) % 256)] 5)).kept hgrow2 (Or.inr (fun e => hdis e.symm))
      have hb3 := (Bl.alloc hb2 (.cells #[.int .u8 ((n : Int) / 2 ^ (8 * k) % 256)] 5)).grown hgrow2 (by simp; omega) (fun j hj => by have := (hob1.lt j hj).1; omega)
      have hdis2 : (some g1 : Option Nat) ≠ some g2 := by
        intro e
        injection e with e
        rcases hat2 with h | h
        · exact hdis (h.trans (by rw [e]))
        · try simp at h
          omega
      go_wp2_with fail
      go_roundw
      case rel => exact ⟨k + 1, by omega, by go_num, by rw [byo_succ' m k _ (hsm.out k)]; exact hoa2, by rw [byo_succ' n k _ (hsn.out k)]; exact hown2, Or.inr hdis2, hb3⟩
      case measure => simp [intOf]; omega
    · obtain rfl : k = 8 := by omega
      obtain ⟨oa, ca, rfl, hnA0⟩ := nums_of_own hoa
      obtain ⟨ob, cb, rfl, hnB0⟩ := nums_of_own hob
      have hnA := bytN m oa wr hnA0
      have hnB := bytN n ob wr hnB0
      clear hnA0 hnB0 hoa hob hab
      go_wp2_with fail
      refine (adLong_calls oa ob 8 ca cb 0 false (byt m) (byt n) _ (by omega) (by omega) hnA hnB (fun _ _ => byt_lt _ _) (fun _ _ => byt_lt _ _)).mono ?_
      rintro e w2 ⟨os, cs, rfl, hnS0, hb2⟩
      obtain ⟨x, hx⟩ : ∃ x, (m + n) % 18446744073709551616 = x := ⟨_, rfl⟩
      have hx64 : x ≤ 18446744073709551615 := by omega
      have hnS : NumsAt w2 .u8 os 8 (fun i => ((byt x i : Nat) : Int)) := fun i hi => by
        have := hnS0 i hi
        dsimp only at this ⊢
        rwa [binS m n hm hn i hi, hx] at this
      have hQ := hide (binQ m n hm hn)
      go_wp2_with fail
      refine (adLong_calls os ob 8 cs cb 1 true (byt x) (byt n) _ (by omega) (by omega) hnS (hnB.below hb2 (Nat.le_refl _)) (fun _ _ => byt_lt _ _) (fun _ _ => byt_lt _ _)).mono ?_
      rintro e w3 ⟨ok, ck, rfl, hnK0, hb3⟩
      have hnK : NumsAt w3 .u8 ok 8 (fun i => ((byt m i : Nat) : Int)) := fun i hi => by
        have := hnK0 i hi
        dsimp only at this ⊢
        rwa [binD x n hx64 hn i hi, show (x + 18446744073709551616 - n) % 18446744073709551616 = m from by omega] at this
      have hT := hide (binT x n hx64 hn)
      have hnS3 := hnS.below hb3 (Nat.le_refl _)
      have hnA3 := (hnA.below hb2 (Nat.le_refl _)).below hb3 (Nat.le_refl _)
      have hxx := hide hx
      clear hnK0 hnS0 hx
      go_wp2_with fail
      go_loop [14, 15] (fun v i => ∃ j : Nat, j ≤ 8 ∧ i = .int .i64 ((j : Int) - 1) ∧ v = .int .u64 (tops x (8 - j) : Nat)) (fun _ i => (intOf i + 1).toNat)
      case atStart => exact ⟨8, by omega, rfl, by rw [Nat.sub_self, tops_zero x hx64]; rfl⟩
      case round =>
        obtain ⟨j, hj, rfl, rfl⟩ := hrel
        rcases Nat.eq_zero_or_pos j with hj0 | hj0
        · subst hj0
          rw [show tops x (8 - 0) = x from tops_all x]
          have y1 : ((m : Int) + (n : Int)) % 18446744073709551616 = (x : Int) := by have := hxx.out; omega
          have y2 : IntKind.u64.wrap ((m : Int) + (n : Int)) = (x : Int) := by rw [IntKind.wrap_u64]; exact y1
          have y3 : ((x : Int) == (x : Int)) = true := beq_self_eq_true _
          have q1 : decide ((m + n) % 18446744073709551616 < m) = decide ((x : Int) < (m : Int)) := by rw [decide_eq_decide, hxx.out]; omega
          have q2 : decide (n ≤ x) = decide ((n : Int) ≤ (x : Int)) := by rw [decide_eq_decide]; omega
          have z1 : ∀ b : Bool, (b == b) = true := fun b => beq_self_eq_true b
          have Q1 := hide q1
          have Q2 := hide q2
          clear q1 q2
          (go_wp2_with fail; refine Cl.p (r20Is_calls _ 0 _ (lgP_lt _ _ _ (by decide) _)) ?_)
          rw [hQ.out, Q1.out]
          go_wp2_with fail
          refine Cl.m (refSame_calls ok oa 8 8 ck ca _ _ _ hnK hnA3 (by decide) (by decide) rfl (fun _ _ => rfl)) ?_
          intro w4 hb4
          (go_wp2_with fail; refine Cl.p (r20Is_calls _ 0 _ (lgP_lt _ _ _ (by decide) _)) ?_)
          rw [hT.out, Q2.out]
          (go_wp2_with fail; go_ret; exact ⟨rfl, by (repeat (first | exact Below.refl _ _ | assumption | refine Below.drew ?_ | refine Bl.alloc ?_ _ | refine below_drewN ?_ _ | refine Bl.chain ?_ (by assumption) (Nat.le_refl _)))⟩)
        · obtain ⟨j, rfl⟩ : ∃ j', j = j' + 1 := ⟨j - 1, by omega⟩
          obtain ⟨b, off, rfl, hbl, hcb⟩ := hnS3 j (by omega)
          dsimp only at hcb
          have hts := tops_succ x (8 - (j + 1)) (by omega)
          rw [show 8 - (j + 1) + 1 = 8 - j from by omega, show 7 - (8 - (j + 1)) = j from by omega] at hts
          have htl : tops x (8 - j) ≤ x := Nat.div_le_self _ _
          have hbt := byt_lt x j
          have hjj : (0 : Int) ≤ (j : Int) := by omega
          obtain ⟨T1, hT1⟩ : ∃ T1, tops x (8 - j) = T1 := ⟨_, rfl⟩
          rw [hT1] at hts htl
          have HT1 := hide hT1
          clear hT1
          generalize tops x (8 - (j + 1)) = T0 at *
          generalize byt x j = q at *
          have Ht := hide hts
          have hT0 : T0 ≤ 72057594037927935 := by omega
          clear hts
          go_wp2_with fail
          go_round
          case rel => exact ⟨j, by omega, by first | rfl | go_num, congrArg (fun z => Value.int .u64 z) (by rw [HT1.out, Ht.out]; first | rfl | omega | (simp only [IntKind.wrap_u64]; omega))⟩
          case measure => simp [intOf] <;> omega
section
open Go.ChangeShapes Go.WideShapes Go.ChangeAt
variable {H : Type} {enc : TypeId × Value → H} {W : World} {base : Nat}
theorem walk_AdderBinary {v0 v1 : Value} {d0 d1 : DataW H} {p0 p1 : List MemPlace}
    (_hsh : W.ShapedOpen Try.prog) (_hsz : (DataW.weightsEach Try.prog [27, 27] [d0, d1]).all (· ≤ reachBytes) = true)
    (hv0 : Value.okWide Try.prog W .any base 27 v0) (hd0 : DataW.Trod enc Try.prog W 0 (fun _ => true) true 27 v0 d0 p0) (hv1 : Value.okWide Try.prog W .any base 27 v1) (hd1 : DataW.Trod enc Try.prog W 0 (fun _ => true) true 27 v1 d1 p1) :
    Calls Try.prog 7 #[v0, v1] W fun e W' => e = .returned (.bool true) ∧ Below W.heap.size W W' := by
  obtain ⟨x0, rfl, h0⟩ := open_u64 Try.underlying27 hv0 hd0
  obtain ⟨x1, rfl, h1⟩ := open_u64 Try.underlying27 hv1 hd1
  exact adderBinary_calls x0 x1 W h0 h1
end
end Go.Proofs.Ytnjnhfkfpahniaa
