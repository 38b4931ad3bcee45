/-
  gannetlaw04: CartPieces, CartPrograms.
-/
import Derived.Test.YtafabjmeeccifaaL04a
import Derived.Test.YtafabjmeeccifaaOpenA
namespace Go.Proofs.Ytafabjmeeccifaa
open Go.RowKit Pl

set_option maxRecDepth 100000 in
set_option maxHeartbeats 4000000 in
theorem cartPieces_calls (o : Option Addr) (n c : Nat) (F : Nat → Int) (w : World) (hnc : n ≤ c) (hcm : c ≤ maxLen) (hL : NumsAt w .u8 o n F) :
    Calls Try.prog 4 #[.slice o n c] w fun e w' => e = .returned (.bool true) ∧ Below w.heap.size w w' := by
  by_cases h1 : 40000 < n
  · have i1 : (40000 : Int) < (n : Int) := by omega
    go_enter Try.func4, Try.ntmps4
    (go_wp2_with fail; refine Cl.m (live04_calls _) ?_; intro w1 hb1)
    (go_wp2_with fail; go_ret; exact ⟨rfl, by (repeat (first | exact Below.refl _ _ | assumption | refine Below.drew ?_ | refine Bl.alloc ?_ _ | refine below_drewN ?_ _ | refine Bl.chain ?_ (by assumption) (Nat.le_refl _)))⟩)
  · have i1 : (decide ((40000 : Int) < (n : Int))) = false := by rw [decide_eq_false_iff_not]; omega
    have hn : n ≤ 40000 := by omega
    have hnm : n ≤ maxLen := Nat.le_trans hnc hcm
    clear h1
    by_cases hk : ChkOk n
    · obtain ⟨k, hkn⟩ : ∃ k, n / 8192 = k := ⟨_, rfl⟩
      have hk2 := hk
      obtain ⟨a1, a2, a3⟩ := hk2
      have hkn2 : k * 8192 = n := by omega
      have j1 : (n : Int).tdiv 8192 = (k : Int) := by rw [Int.tdiv_eq_ediv_of_nonneg (by omega)]; omega
      have j2 : (n : Int) / 8192 = (k : Int) := by omega
      have hlen := runs_len (F := F) n
      go_enter Try.func4, Try.ntmps4
      (go_wp2_with fail; refine Cl.m (live04_calls _) ?_; intro w1 hb1)
      have hL1 := hL.below hb1 (Nat.le_refl _)
      go_wp2_with fail
      refine (ctPieces_ok n c o F w1 hk hnc hcm hL1).mono ?_
      rintro e w2 ⟨v, rfl, hP2, hb2⟩
      have hb02 := hb1.trans (hb2.mono hb1.size)
      obtain ⟨a, cv, O, Cp, rfl, hQ2⟩ := hP2.pieces
      clear hP2
      go_wp2_with fail
      refine Cl.p (rcCheck_ok n c o _ hk) ?_
      go_wp2_with fail
      refine (mk_walk k n a _ cv _ O _ Cp _ w2 (by omega) hkn2 (by unfold maxLen; omega) hQ2).mono ?_
      rintro e w3 ⟨hb3, ⟨i, hi, _, hnf, _⟩ | ⟨_, g, rfl, hR3, hg3⟩⟩
      · exact absurd (fits_runs F n i hi) hnf
      rw [mkF_runs] at hR3
      have hb03 := hb02.trans (hb3.mono hb02.size)
      have hQ3 := hQ2.below hb3 (Nat.le_refl _)
      have hs23 := hb3.size
      have hz4 : Blk (w3.alloc (.cells #[.int .i64 0, .int .i64 0] 28)) w3.heap.size 28 #[.int .i64 0, .int .i64 0] := Blk.new _ _ _
      have hF4 : Blk (w3.alloc (.cells (fltA (0, 0)) 28)) w3.heap.size 28 (fltA (0, 0)) := Blk.new _ _ _
      have hb34 : Below w3.heap.size w3 (w3.alloc (.cells (fltA (0, 0)) 28)) := (Below.refl _ _).alloc (Nat.le_refl _) _
      clear hQ2 hb3
      go_wp2_with (refine wpList_store_row rfl 28 _ _ rfl w3.heap.size _ rfl rfl 28 _ hz4 (by kernel_rfl) rfl (by kernel_rfl) ?_; rw [setRow_new])
      generalize w3.alloc (.cells (fltA (0, 0)) 28) = w4 at *
      have hb04 := hb03.trans (hb34.mono hb03.size)
      have hs34 := hb34.size
      have hQ4 := hQ3.below hb34 hs23
      have hR4 := Blk.below hR3 hb34 hR3.lt
      refine (rcPieces_calls n c o F w4 (by omega) (hL.below hb04 (Nat.le_refl _))).mono ?_
      rintro e w5 ⟨v5, rfl, hP5, hb5⟩
      obtain ⟨a5, cv5, O5, Cp5, rfl, hQ5⟩ := hP5.pieces
      have hb05 := hb04.trans (hb5.mono hb04.size)
      have hQ45 := hQ4.below hb5 (by omega)
      have hR5 := Blk.below hR4 hb5 hR4.lt
      have hF5 := hF4.below hb5 hF4.lt
      clear hP5
      go_wp2_with fail
      refine Cl.m (rcSame_calls a a5 (runsP F n).length cv cv5 _ O O5 (pN (runsP F n)) Cp Cp5 _ w5.heap.size w5 (by unfold maxLen; omega) (fun i hi => by have := pN_pos F n i hi; unfold maxLen; omega) (hQ45.mono (by have := hb5.size; omega)) hQ5) ?_
      intro w6 hb6
      have hb06 := hb05.trans (hb6.mono hb05.size)
      have hF6 := hF5.below hb6 hF5.lt
      have hR6 := Blk.below hR5 hb6 hR5.lt
      have c0 : w6.cell? ⟨w3.heap.size, 0, none⟩ = some (.int .i64 0) := hF6.cell 0
      have c1 : w6.cell? ⟨w3.heap.size, 1, none⟩ = some (.int .i64 0) := hF6.cell 1
      have hsame := refSame_calls (some ⟨g, 0, none⟩) o n n n c (fun j => if j < n then F j else 0) F w6 (RW.nums hR6) (hL.below hb06 (Nat.le_refl _)) hnm hnm rfl (fun i hi => if_pos hi)
      clear hQ45 hQ5 hQ4 hQ3 hR3 hR4 hR5 hF4 hF5 hL hL1
      go_wp2_with fail
      refine Cl.m hsame ?_
      intro w7 hb7
      go_wp2_with fail
      go_ret
      exact ⟨rfl, hb06.trans (hb7.mono hb06.size)⟩
    · go_enter Try.func4, Try.ntmps4
      (go_wp2_with fail; refine Cl.m (live04_calls _) ?_; intro w1 hb1)
      (go_wp2_with fail; refine Cl.p (ctPieces_bad n c o _ hnm hk) ?_)
      (go_wp2_with fail; refine Cl.p (rcCheck_bad n c o _ hnm hk) ?_)
      (go_wp2_with fail; go_ret; exact ⟨rfl, by (repeat (first | exact Below.refl _ _ | assumption | refine Below.drew ?_ | refine Bl.alloc ?_ _ | refine below_drewN ?_ _ | refine Bl.chain ?_ (by assumption) (Nat.le_refl _)))⟩)
theorem at_wrap (k s : Nat) (hk : k < 5) (hs : 8182 + 2 * k = s) : IntKind.u16.wrap (IntKind.i64.wrap (8182 + IntKind.i64.wrap (2 * (k : Int)))) = (s : Int) := by
  have h1 : IntKind.i64.wrap (2 * (k : Int)) = 2 * (k : Int) := by rw [IntKind.wrap_i64]; omega
  have h2 : IntKind.i64.wrap (8182 + 2 * (k : Int)) = (s : Int) := by rw [IntKind.wrap_i64]; omega
  rw [h1, h2, IntKind.wrap_u16]
  omega
theorem prg_lo (f n : Nat) (F : Nat → Int) (G : Nat → Nat) (i : Nat) (h : i < 5) : prg f n F G 5 (8182 + 2 * i) = ((G i % 256 : Nat) : Int) := by
  unfold prg goB
  rw [if_pos (by omega), if_pos (by omega), show (8182 + 2 * i - 8182) / 2 = i from by omega]
theorem prg_hi (f n : Nat) (F : Nat → Int) (G : Nat → Nat) (i : Nat) (h : i < 5) : prg f n F G 5 (8182 + 2 * i + 1) = ((G i / 256 : Nat) : Int) := by
  unfold prg goB
  rw [if_pos (by omega), if_neg (by omega), show (8182 + 2 * i + 1 - 8182) / 2 = i from by omega]
set_option maxRecDepth 100000 in
set_option maxHeartbeats 4000000 in
theorem cartPrograms_calls (t n c : Nat) (o : Option Addr) (F : Nat → Int) (G : Nat → Nat) (w : World) (ht : t < 65536) (hn : n ≤ 281474976710656) (hG : ∀ i, i < 5 → G i < 65536) (hL : NumsAt w .u8 o n F) :
    Calls Try.prog 5 #[.int .u16 (t : Int), .slice o n c, .agg (arr 5 fun i => .int .u16 (G i : Int))] w fun e w' => e = .returned (.bool true) ∧ Below w.heap.size w w' := by
  have hX0 : Blk (w.alloc (.cells (arr 5 fun i => .int .u16 (G i : Int)) 40)) w.heap.size 40 (arr 5 fun i => .int .u16 (G i : Int)) := Blk.new _ _ _
  have hbA : Below w.heap.size w (w.alloc (.cells (arr 5 fun i => .int .u16 (G i : Int)) 40)) := Bl.alloc (Below.refl _ _) _
  go_enter Try.func5, Try.ntmps5
  (go_wp2_with fail; refine Cl.m (live04_calls _) ?_; intro w1 hb1)
  have hX1 := hX0.below hb1 hX0.lt
  have hb01 : Below w.heap.size w w1 := hbA.trans (hb1.mono hbA.size)
  have hL1 := hL.below hb01 (Nat.le_refl _)
  clear hX0 hbA hb1
  go_wp2_with (refine wpList_load_row rfl 40 _ rfl w.heap.size rfl _ (arr 5 fun i => .int .u16 (G i : Int)) (0, 0) _ hX1 Try.underlying40 rfl (by kernel_rfl) ?_)
  by_cases hfit : t % 8192 + n ≤ 8182
  · refine (ctProgram_calls t n c o F G w1 ht (by unfold maxLen; omega) hG hL1 hfit).mono ?_
    rintro e w2 ⟨g, rfl, hR2, hg2, hb2⟩
    have hX2 := hX1.below hb2 hX1.lt
    have hb02 := hb01.trans (hb2.mono hb01.size)
    have hL2 := hL.below hb02 (Nat.le_refl _)
    go_wp2_with (refine wpList_load_row rfl 40 _ rfl w.heap.size rfl _ (arr 5 fun i => .int .u16 (G i : Int)) (0, 0) _ hX2 Try.underlying40 rfl (by kernel_rfl) ?_)
    refine (rcProgram_calls t n c o F G w2 ht hG hL2 hfit).mono ?_
    rintro e w3 ⟨g', rfl, hR3, hg3, hb3⟩
    have hX3 := hX2.below hb3 hX2.lt
    have hb03 := hb02.trans (hb3.mono hb02.size)
    have hQ3 := Blk.below hR2 hb3 hR2.lt
    generalize t % 8192 = f at *
    clear hR2 hX2 hX1 hL1 hL2 hL
    go_wp2_with fail
    refine Cl.m (refSame_calls _ _ 8192 8192 8192 8192 _ _ w3 (RW.nums hQ3) (RW.nums hR3) (by decide) (by decide) rfl (fun _ _ => rfl)) ?_
    intro w4 hb4
    have hX4 := hX3.below hb4 hX3.lt
    have hb04 := hb03.trans (hb4.mono hb03.size)
    have hR4 : RW w4 g 8192 (prg f n F G 5) := Blk.below hQ3 hb4 hQ3.lt
    clear hQ3 hR3 hX3
    go_wp2_with fail
    go_loopw [11] (fun i wr => ∃ k : Nat, k ≤ 5 ∧ i = .int .i64 (k : Int) ∧ RW wr g 8192 (prg f n F G 5) ∧ Blk wr w.heap.size 40 (arr 5 fun i => .int .u16 (G i : Int)) ∧ Below w.heap.size w wr) (fun i _ => 5 - (intOf i).toNat)
    case atStart => exact ⟨0, by omega, rfl, hR4, hX4, hb04⟩
    case round =>
      obtain ⟨k, hk, rfl, hRr, hXr, hbr⟩ := hrel
      by_cases hk5 : k < 5
      · have hk5' : (k : Int) < 5 := by omega
        obtain ⟨s, hs⟩ : ∃ s, 8182 + 2 * k = s := ⟨_, rfl⟩
        have hGk := hG k hk5
        have hlo := prg_lo f n F G k hk5
        have hhi := prg_hi f n F G k hk5
        rw [hs] at hlo hhi
        have hXd : Blk wr.drew w.heap.size 40 (arr 5 fun i => .int .u16 (G i : Int)) := hXr
        have hRd : RW wr.drew g 8192 (prg f n F G 5) := hRr
        have hbd : Below w.heap.size w wr.drew := hbr.drew
        have c0 : wr.drew.cell? ⟨w.heap.size, k, none⟩ = some (.int .u16 (G k : Int)) := by rw [hXd.cell, arr_get 5 _ k hk5]
        have hw := ctWord_calls 8192 8192 s (G k % 256) (G k / 256) (some ⟨g, 0, none⟩) (prg f n F G 5) wr.drew (by omega) (by omega) (by omega) (by rw [show s % 8192 = s from by omega, hlo]) (by rw [show (s + 1) % 8192 = s + 1 from by omega, hhi]) (by omega) (by omega) (RW.nums hRd)
        rw [show G k % 256 + 256 * (G k / 256) = G k from by omega] at hw
        obtain ⟨x, hx⟩ : ∃ x, G k = x := ⟨_, rfl⟩
        rw [hx] at hw c0 hGk
        have z1 : ((x : Int) != (x : Int)) = false := bne_self_eq_false _
        have e1 : (8182 : Int) + 2 * (k : Int) = (s : Int) := by omega
        have e2 : (s : Int) < 65536 := by omega
        have e3 := at_wrap k s hk5 hs
        have E3 := hide e3
        clear e3
        have hl := hXd.lt
        clear hlo hhi hx hs
        go_wp2_with fail
        go_region_held3 (fun W => W.cell? ⟨w.heap.size, k, none⟩ = some (.int .u16 (x : Int))) (first | exact c1 | exact c0)
          (first | (go_at_call 18; rw [E3.out]; refine Cl.m hw ?_; intro w5 hb5; have c1 := (hb5.cell (p := ⟨w.heap.size, k, none⟩) hl).trans c0))
        all_goals
          have hR5 : RW w5 g 8192 (prg f n F G 5) := Blk.below hRd hb5 (Blk.lt hRd)
          have hX5 := hXd.below hb5 hl
          have hb05 := hbd.trans (hb5.mono hbd.size)
          clear hRd hXd hRr hXr hw
          go_wp2_with fail
          go_roundw
          case rel => exact ⟨k + 1, by omega, by go_num, hR5, hX5, hb05⟩
          case measure => simp [intOf]; omega
      · obtain rfl : k = 5 := by omega
        go_wp2_with fail
        go_ret
        exact ⟨rfl, hbr⟩
  · refine (ctProgram_bad t n c o G w1 ht (by omega)).mono ?_
    rintro e w2 ⟨rfl, hb2⟩
    have hX2 := hX1.below hb2 hX1.lt
    have hb02 := hb01.trans (hb2.mono hb01.size)
    go_wp2_with (refine wpList_load_row rfl 40 _ rfl w.heap.size rfl _ (arr 5 fun i => .int .u16 (G i : Int)) (0, 0) _ hX2 Try.underlying40 rfl (by kernel_rfl) ?_)
    refine (rcProgram_bad t n c o G w2 ht (by omega) (by omega)).mono ?_
    rintro e w3 ⟨rfl, hb3⟩
    have hb03 := hb02.trans (hb3.mono hb02.size)
    clear hX1 hX2 hL1 hL hfit
    go_wp2_with fail
    refine Cl.m (refSame_calls none none 0 0 0 0 (fun _ => 0) (fun _ => 0) w3 (fun i hi => by omega) (fun i hi => by omega) (by decide) (by decide) rfl (fun _ _ => rfl)) ?_
    intro w4 hb4
    have hb04 := hb03.trans (hb4.mono hb03.size)
    go_wp2_with fail
    go_loopw [11] (fun i wr => i = .int .i64 0 ∧ wr = w4) (fun i _ => 0)
    case atStart => exact ⟨rfl, rfl⟩
    case round =>
      obtain ⟨rfl, rfl⟩ := hrel
      go_wp2_with fail
      go_ret
      exact ⟨rfl, hb04⟩
section
open Go.ChangeShapes Go.WideShapes Go.ChangeAt
variable {H : Type} {enc : TypeId × Value → H} {W : World} {base : Nat}
theorem walk_CartPieces {v0 : Value} {d0 : DataW H} {p0 : List MemPlace}
    (_hsh : W.ShapedOpen Try.prog) (_hsz : (DataW.weightsEach Try.prog [25] [d0]).all (· ≤ reachBytes) = true)
    (hv0 : Value.okWide Try.prog W .any base 25 v0) (hd0 : DataW.Trod enc Try.prog W 0 (fun _ => true) true 25 v0 d0 p0) :
    Calls Try.prog 4 #[v0] W fun e W' => e = .returned (.bool true) ∧ Below W.heap.size W W' := by
  obtain ⟨o, n, c, F, rfl, hL, hnc, hcm, _⟩ := open_nums Try.underlying25 Try.underlying5 (by kernel_rfl) hv0 hd0
  exact cartPieces_calls o n c F W hnc hcm hL
theorem walk_CartPrograms {v0 v1 v2 : Value} {d0 d1 d2 : DataW H} {p0 p1 p2 : List MemPlace}
    (_hsh : W.ShapedOpen Try.prog) (hsz : (DataW.weightsEach Try.prog [39, 25, 40] [d0, d1, d2]).all (· ≤ reachBytes) = true)
    (hv0 : Value.okWide Try.prog W .any base 39 v0) (hd0 : DataW.Trod enc Try.prog W 0 (fun _ => true) true 39 v0 d0 p0) (hv1 : Value.okWide Try.prog W .any base 25 v1) (hd1 : DataW.Trod enc Try.prog W 0 (fun _ => true) true 25 v1 d1 p1) (hv2 : Value.okWide Try.prog W .any base 40 v2) (hd2 : DataW.Trod enc Try.prog W 0 (fun _ => true) true 40 v2 d2 p2) :
    Calls Try.prog 5 #[v0, v1, v2] W fun e W' => e = .returned (.bool true) ∧ Below W.heap.size W W' := by
  obtain ⟨x0, rfl, h0⟩ := open_u16 Try.underlying39 hv0 hd0
  obtain ⟨o, n, c, F, rfl, hL, hnc, hcm, _⟩ := open_nums Try.underlying25 Try.underlying5 (by kernel_rfl) hv1 hd1
  have hrn := slice_reach hsz Try.underlying25 hd1 (j := 1) rfl rfl
  obtain ⟨l2, rfl, hl2⟩ := open_arr Try.underlying40 Try.underlying39 (by kernel_rfl) (by kernel_rfl) hv2 hd2
  have e5 : arr 5 (fun i => Value.int .u16 (l2 i)) = arr 5 (fun i => Value.int .u16 (((l2 i).toNat : Nat) : Int)) := by
    refine arr_congr fun i hi => ?_
    have := bounds_u16 (hl2 i hi)
    rw [Int.toNat_of_nonneg (by omega)]
  rw [e5]
  refine cartPrograms_calls x0 n c o F _ W h0 ?_ (fun i hi => by have := bounds_u16 (hl2 i hi); omega) hL
  have hb : Try.prog.bytesOf 5 = 1 := by kernel_rfl
  rw [hb] at hrn
  unfold reachBytes at hrn
  omega
end
end Go.Proofs.Ytafabjmeeccifaa
