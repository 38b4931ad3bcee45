/-
  gannetlaw04: pieces that come in; CartMakes.
-/
import Derived.Test.YtafabjmeeccifaaL04
namespace Go.Proofs.Ytafabjmeeccifaa
open Go.RowKit Pl

def sA : Value → Option Addr
  | .slice a _ _ => a
  | _ => none
def sN : Value → Nat
  | .slice _ n _ => n
  | _ => 0
def sC : Value → Nat
  | .slice _ _ c => c
  | _ => 0
def sB (W : World) (v : Value) (j : Nat) : Int := match sA v with
  | some a => cellInt ((W.cell? (a.add j)).getD undef)
  | none => 0
section
open Go.ChangeShapes Go.WideShapes Go.ChangeAt
variable {H : Type} {enc : TypeId × Value → H} {W : World} {base : Nat}
theorem field_bytes {v : Value} {n : Nat} {y : DataW H × List MemPlace} (h : DataW.trod enc Try.prog W 0 (fun _ => true) true n 25 [v] = some y) :
    v = .slice (sA v) (sN v) (sC v) ∧ NumsAt W .u8 (sA v) (sN v) (sB W v) ∧ sN v ≤ sC v ∧ sC v ≤ maxLen := by
  rcases open_ints Try.underlying25 Try.underlying5 (by kernel_rfl) h with ⟨hcs, _⟩ | ⟨x, l, c, zs, hcs, _, hl, hm, hz, _, hcell, hwz⟩
  · injection hcs with hcs
    subst hcs
    exact ⟨rfl, fun i hi => absurd hi (by simp [sN]), Nat.le_refl _, by simp [sC, maxLen]⟩
  · injection hcs with hcs
    subst hcs
    have hlen : l ≤ zs.length := by rw [hz]; split <;> omega
    refine ⟨rfl, fun i hi => ?_, hl, hm⟩
    have hi : i < l := hi
    have hci := hcell i (by omega)
    have hc0 := hcell 0 (by omega)
    obtain ⟨b, off, spot⟩ := x
    have hspot : spot = none := by simpa [Addr.add] using World.cell?_spot hc0
    subst hspot
    rw [add_plain] at hci
    refine ⟨b, off, rfl, cell_lt hci, ?_⟩
    show _ = some (Value.int .u8 (sB W (.slice (some ⟨b, off, none⟩) l c) i))
    unfold sB
    simp only [sA]
    rw [add_plain, hci]
    rfl
theorem open_pieces {v : Value} {d : DataW H} {p : List MemPlace} (hv : Value.okWide Try.prog W .any base 22 v) (hd : DataW.Trod enc Try.prog W 0 (fun _ => true) true 22 v d p) :
    ∃ (a : Option Addr) (len cap : Nat) (At : Nat → Int) (O : Nat → Option Addr) (Ln Cp : Nat → Nat) (By : Nat → Nat → Int), v = .slice a len cap ∧ PieB W a len At O Ln Cp By W.heap.size ∧ len ≤ maxLen ∧ (∀ i, i < len → -9223372036854775808 ≤ At i ∧ At i ≤ 9223372036854775807 ∧ Ln i ≤ Cp i ∧ Cp i ≤ maxLen) := by
  obtain ⟨a, len, cap, C, rfl, hr, hl, hm, hf⟩ := open_rows Try.underlying22 Try.underlying46 (by kernel_rfl) (by kernel_rfl) (by decide) hv hd
  refine ⟨a, len, cap, fun i => cellInt (C i 0), fun i => sA (C i 1), fun i => sN (C i 1), fun i => sC (C i 1), fun i => sB W (C i 1), rfl, fun i hi => ?_, Nat.le_trans hl hm, fun i hi => ?_⟩
  · obtain ⟨b, off, rfl, hlt, hc⟩ := hr i hi
    obtain ⟨_, _, h0⟩ := hf i hi 0 _ rfl
    obtain ⟨_, _, h1⟩ := hf i hi 1 _ rfl
    obtain ⟨s, hs, _⟩ := field_i64 Try.underlying3 h0
    obtain ⟨q1, q2, q3, q4⟩ := field_bytes h1
    have c0 := hc 0 (by decide)
    have c1 := hc 1 (by decide)
    rw [hs] at c0
    refine ⟨b, off, rfl, hlt, ?_, ?_, q2.toB (Nat.le_refl _)⟩
    · simp only [hs, cellInt]; exact c0
    · rw [Nat.add_assoc, ← q1]; exact c1
  · obtain ⟨_, _, h0⟩ := hf i hi 0 _ rfl
    obtain ⟨_, _, h1⟩ := hf i hi 1 _ rfl
    obtain ⟨s, hs, s1, s2⟩ := field_i64 Try.underlying3 h0
    obtain ⟨q1, q2, q3, q4⟩ := field_bytes h1
    simp only [hs, cellInt]
    exact ⟨s1, s2, q3, q4⟩
end
set_option maxRecDepth 100000 in
set_option maxHeartbeats 4000000 in
theorem cartMakes_calls (m : Int) (a : Option Addr) (n c : Nat) (At : Nat → Int) (O : Nat → Option Addr) (Ln Cp : Nat → Nat) (By : Nat → Nat → Int) (w : World) (hn : n ≤ maxLen) (hP : PieB w a n At O Ln Cp By w.heap.size) :
    Calls Try.prog 3 #[.int .i64 m, .slice a n c] w fun e w' => e = .returned (.bool true) ∧ Below w.heap.size w w' := by
  by_cases hS : Small n Ln
  · -- what both make
    have key : ∃ (N f1 f2 : Nat) (F : Nat → Int), N ≤ 1048576 ∧
        (∀ w1, Below w.heap.size w w1 → Calls Try.prog 9 #[.int .i64 m, .slice a n c] w1 fun e w' => ∃ o, e = .returned (.tuple #[.slice o N N, .agg #[.int .i64 (f1 : Int), .int .i64 (f2 : Int)]]) ∧ NumsAt w' .u8 o N F ∧ Below w1.heap.size w1 w') ∧
        (∀ w1, Below w.heap.size w w1 → Calls Try.prog 10 #[.int .i64 m, .slice a n c] w1 fun e w' => ∃ o, e = .returned (.tuple #[.slice o N N, .agg #[.int .i64 (f1 : Int), .int .i64 (f2 : Int)]]) ∧ NumsAt w' .u8 o N F ∧ Below w1.heap.size w1 w') := by
      by_cases hr : m < 1 ∨ 128 < m
      · exact ⟨0, 6, 0, fun _ => 0, by omega, fun w1 _ => (mk_range m a n c w1 hr).mono fun e w' ⟨h1, h2⟩ => ⟨none, h1, fun i hi => by omega, h2⟩, fun w1 _ => (rk_range m a n c w1 hr).mono fun e w' ⟨h1, h2⟩ => ⟨none, h1, fun i hi => by omega, h2⟩⟩
      · obtain ⟨k, rfl⟩ : ∃ k : Nat, m = (k : Int) := ⟨m.toNat, by omega⟩
        have hk : 1 ≤ k ∧ k ≤ 128 := by omega
        by_cases hall : ∀ j, j < n → Fits (k * 8192) (At j) (Ln j)
        · refine ⟨k * 8192, 0, 0, mkF At Ln By n, by omega, fun w1 hb => ?_, fun w1 hb => ?_⟩
          · refine (mk_walk k _ a n c At O Ln Cp By w1 hk rfl hn ((hP.below hb (Nat.le_refl _)).mono hb.size)).mono ?_
            rintro e w' ⟨hb', ⟨i, hi, _, hnf, _⟩ | ⟨_, g, rfl, hR, _⟩⟩
            · exact absurd (hall i hi) hnf
            · exact ⟨_, rfl, hR.nums, hb'⟩
          · refine (rk_walk k _ a n c At O Ln Cp By w1 hk rfl hn ((hP.below hb (Nat.le_refl _)).mono hb.size)).mono ?_
            rintro e w' ⟨hb', ⟨i, hi, _, hnf, _⟩ | ⟨_, g, rfl, hR, _⟩⟩
            · exact absurd (hall i hi) hnf
            · exact ⟨_, rfl, hR.nums, hb'⟩
        · -- the first one that doesn't fit
          obtain ⟨i, hi, hlo, hno⟩ : ∃ i, i < n ∧ (∀ j, j < i → Fits (k * 8192) (At j) (Ln j)) ∧ ¬ Fits (k * 8192) (At i) (Ln i) := by
            have aux : ∀ q, (∀ j, j < q → Fits (k * 8192) (At j) (Ln j)) ∨ ∃ i, i < q ∧ (∀ j, j < i → Fits (k * 8192) (At j) (Ln j)) ∧ ¬ Fits (k * 8192) (At i) (Ln i) := by
              intro q
              induction q with
              | zero => exact Or.inl fun j hj => by omega
              | succ q ih =>
                rcases ih with ih | ⟨i, h1, h2, h3⟩
                · by_cases hq : Fits (k * 8192) (At q) (Ln q)
                  · left
                    intro j hj
                    by_cases e : j = q
                    · subst e; exact hq
                    · exact ih j (by omega)
                  · exact Or.inr ⟨q, by omega, ih, hq⟩
                · exact Or.inr ⟨i, by omega, h2, h3⟩
            rcases aux n with h | h
            · exact absurd h hall
            · exact h
          have uniq : ∀ i', i' < n → (∀ j, j < i' → Fits (k * 8192) (At j) (Ln j)) → ¬ Fits (k * 8192) (At i') (Ln i') → i' = i := fun i' _ h2 h3 => by
            rcases Nat.lt_trichotomy i' i with h | h | h
            · exact absurd (hlo i' h) h3
            · exact h
            · exact absurd (h2 i h) hno
          refine ⟨0, 1, i, fun _ => 0, by omega, fun w1 hb => ?_, fun w1 hb => ?_⟩
          · refine (mk_walk k _ a n c At O Ln Cp By w1 hk rfl hn ((hP.below hb (Nat.le_refl _)).mono hb.size)).mono ?_
            rintro e w' ⟨hb', ⟨i', hi', h2, h3, rfl⟩ | ⟨h2, g, rfl, hR, _⟩⟩
            · rw [uniq i' hi' h2 h3]
              exact ⟨none, rfl, fun i hi => by omega, hb'⟩
            · exact absurd (h2 i hi) hno
          · refine (rk_walk k _ a n c At O Ln Cp By w1 hk rfl hn ((hP.below hb (Nat.le_refl _)).mono hb.size)).mono ?_
            rintro e w' ⟨hb', ⟨i', hi', h2, h3, rfl⟩ | ⟨h2, g, rfl, hR, _⟩⟩
            · rw [uniq i' hi' h2 h3]
              exact ⟨none, rfl, fun i hi => by omega, hb'⟩
            · exact absurd (h2 i hi) hno
    obtain ⟨N, f1, f2, F, hN, k1, k2⟩ := key
    have z1 : ((f1 : Int) == (f1 : Int)) = true := beq_self_eq_true _
    have z2 : ((f2 : Int) == (f2 : Int)) = true := beq_self_eq_true _
    go_enter Try.func3, Try.ntmps3
    (go_wp2_with fail; refine Cl.m (live04_calls _) ?_; intro w1 hb1)
    go_wp2_with fail
    refine Cl.p (lwSmall_yes a n c At O Ln Cp By _ _ (hP.below hb1 (Nat.le_refl _)) hS) ?_
    go_wp2_with fail
    refine (k1 w1 hb1).mono ?_
    rintro e w2 ⟨o1, rfl, hN2, hb2⟩
    have hb02 := hb1.trans (hb2.mono hb1.size)
    have hz3 : Blk (w2.alloc (.cells #[.int .i64 0, .int .i64 0] 28)) w2.heap.size 28 #[.int .i64 0, .int .i64 0] := Blk.new _ _ _
    have hF3 : Blk (w2.alloc (.cells #[.int .i64 (f1 : Int), .int .i64 (f2 : Int)] 28)) w2.heap.size 28 #[.int .i64 (f1 : Int), .int .i64 (f2 : Int)] := Blk.new _ _ _
    have hb23 : Below w2.heap.size w2 (w2.alloc (.cells #[.int .i64 (f1 : Int), .int .i64 (f2 : Int)] 28)) := (Below.refl _ _).alloc (Nat.le_refl _) _
    go_wp2_with (refine wpList_store_row rfl 28 _ _ rfl w2.heap.size _ rfl rfl 28 _ hz3 (by kernel_rfl) rfl (by kernel_rfl) ?_; rw [setRow_new])
    generalize w2.alloc (.cells #[.int .i64 (f1 : Int), .int .i64 (f2 : Int)] 28) = w3 at *
    have hN3 := hN2.below hb23 (Nat.le_refl _)
    have hb03 := hb02.trans (hb23.mono hb02.size)
    refine (k2 w3 hb03).mono ?_
    rintro e w4 ⟨o2, rfl, hN4, hb4⟩
    have hb04 := hb03.trans (hb4.mono hb03.size)
    have hF4 := hF3.below hb4 hF3.lt
    have hN34 := hN3.below hb4 (Nat.le_refl _)
    have hz5 : Blk (w4.alloc (.cells #[.int .i64 0, .int .i64 0] 28)) w4.heap.size 28 #[.int .i64 0, .int .i64 0] := Blk.new _ _ _
    have hG5 : Blk (w4.alloc (.cells #[.int .i64 (f1 : Int), .int .i64 (f2 : Int)] 28)) w4.heap.size 28 #[.int .i64 (f1 : Int), .int .i64 (f2 : Int)] := Blk.new _ _ _
    have hF5 : Blk (w4.alloc (.cells #[.int .i64 (f1 : Int), .int .i64 (f2 : Int)] 28)) w2.heap.size 28 #[.int .i64 (f1 : Int), .int .i64 (f2 : Int)] := hF4.alloc _
    have hb45 : Below w4.heap.size w4 (w4.alloc (.cells #[.int .i64 (f1 : Int), .int .i64 (f2 : Int)] 28)) := (Below.refl _ _).alloc (Nat.le_refl _) _
    have c0 := hF5.cell 0
    have c1 := hF5.cell 1
    have c2 := hG5.cell 0
    have c3 := hG5.cell 1
    go_wp2_with (refine wpList_store_row rfl 28 _ _ rfl w4.heap.size _ rfl rfl 28 _ hz5 (by kernel_rfl) rfl (by kernel_rfl) ?_; rw [setRow_new])
    generalize w4.alloc (.cells #[.int .i64 (f1 : Int), .int .i64 (f2 : Int)] 28) = w5 at *
    refine Cl.m (refSame_calls o1 o2 N N N N F F w5 (hN34.below hb45 (Nat.le_refl _)) (hN4.below hb45 (Nat.le_refl _)) (by unfold maxLen; omega) (by unfold maxLen; omega) rfl (fun _ _ => rfl)) ?_
    intro w6 hb6
    have hb05 := hb04.trans (hb45.mono hb04.size)
    go_wp2_with fail
    go_ret
    exact ⟨rfl, hb05.trans (hb6.mono hb05.size)⟩
  · go_enter Try.func3, Try.ntmps3
    (go_wp2_with fail; refine Cl.m (live04_calls _) ?_; intro w1 hb1)
    go_wp2_with fail
    refine Cl.p (lwSmall_no a n c At O Ln Cp By _ _ (hP.below hb1 (Nat.le_refl _)) hS) ?_
    (go_wp2_with fail; go_ret; exact ⟨rfl, by (repeat (first | exact Below.refl _ _ | assumption | refine Below.drew ?_ | refine Bl.alloc ?_ _ | refine below_drewN ?_ _ | refine Bl.chain ?_ (by assumption) (Nat.le_refl _)))⟩)
section
open Go.ChangeShapes Go.WideShapes Go.ChangeAt
variable {H : Type} {enc : TypeId × Value → H} {W : World} {base : Nat}
theorem walk_CartMakes {v0 v1 : Value} {d0 d1 : DataW H} {p0 p1 : List MemPlace}
    (_hsh : W.ShapedOpen Try.prog) (_hsz : (DataW.weightsEach Try.prog [3, 22] [d0, d1]).all (· ≤ reachBytes) = true)
    (hv0 : Value.okWide Try.prog W .any base 3 v0) (hd0 : DataW.Trod enc Try.prog W 0 (fun _ => true) true 3 v0 d0 p0) (hv1 : Value.okWide Try.prog W .any base 22 v1) (hd1 : DataW.Trod enc Try.prog W 0 (fun _ => true) true 22 v1 d1 p1) :
    Calls Try.prog 3 #[v0, v1] W fun e W' => e = .returned (.bool true) ∧ Below W.heap.size W W' := by
  obtain ⟨x0, rfl, h0a, h0b⟩ := open_i64 Try.underlying3 hv0 hd0
  obtain ⟨a, n, c, At, O, Ln, Cp, By, rfl, hP, hn, _⟩ := open_pieces hv1 hd1
  exact cartMakes_calls x0 a n c At O Ln Cp By W hn hP
end
end Go.Proofs.Ytafabjmeeccifaa
