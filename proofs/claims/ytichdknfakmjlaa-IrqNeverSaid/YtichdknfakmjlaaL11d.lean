/-
  gannetlaw11.IrqNever.
-/
import Derived.Test.YtichdknfakmjlaaL11c
import Derived.Test.YtichdknfakmjlaaRbit
namespace Go.Proofs.Ytichdknfakmjlaa
open Go.RowKit Pl

/-- What is chosen; a, b, c: the bits of what is disabled. -/
def nvV (r m u i j k a b c : Bool) : Nat := if r then 1 else if m then 2 else if !k && u && !a then 3 else if !k && i && !b then 4 else if !k && j && !c then 5 else 0
theorem choose_nv (r m u i j k : Bool) (d : Nat) (hd : d < 8) : chL (chF r m u i j k d) (kL 5) = nvV r m u i j k (tb d 2) (tb d 1) (tb d 0) := by
  have H : ∀ r m u i j k : Bool, ∀ d : Nat, d < 8 → chL (chF r m u i j k d) (kL 5) = nvV r m u i j k (tb d 2) (tb d 1) (tb d 0) := by decide +kernel
  exact H r m u i j k d hd
theorem st_bit2 (u i j : Bool) : tb (stB u i j) 2 = u := by cases u <;> cases i <;> cases j <;> decide
theorem st_bit1 (u i j : Bool) : tb (stB u i j) 1 = i := by cases u <;> cases i <;> cases j <;> decide
theorem st_bit0 (u i j : Bool) : tb (stB u i j) 0 = j := by cases u <;> cases i <;> cases j <;> decide
theorem stB_lt (u i j : Bool) : stB u i j < 256 := by cases u <;> cases i <;> cases j <;> decide
set_option maxRecDepth 100000 in
set_option maxHeartbeats 4000000 in
theorem irqNever_calls (sa : Option Addr) (n cn : Nat) (Ra Ba : Nat → Nat) (r m i j k : Bool) (w : World) (hSa : StpB w sa n Ra Ba w.heap.size) :
    Calls Try.prog 4 #[.slice sa n cn, .agg #[.bool r, .bool m, .bool i, .bool j], .bool k] w fun e w' => e = .returned (.bool true) ∧ Below w.heap.size w w' := by
  by_cases hn : 60 < n
  · have i1 : (60 : Int) < (n : Int) := by omega
    clear hn
    go_enter Try.func4, Try.ntmps4
    (go_wp2_with fail; refine Cl.m (live11_calls _) ?_; intro w1 hb1)
    (go_wp2_with fail; go_ret; exact ⟨rfl, by (repeat (first | exact Below.refl _ _ | assumption | refine Below.drew ?_ | refine Bl.alloc ?_ _ | refine below_drewN ?_ _ | refine Bl.chain ?_ (by assumption) (Nat.le_refl _)))⟩)
  · have i1 : (decide ((60 : Int) < (n : Int))) = false := by rw [decide_eq_false_iff_not]; omega
    have n60 : n ≤ 60 := by omega
    clear hn
    go_enter Try.func4, Try.ntmps4
    go_wp2_with fail
    have hU0 : Blk (w.alloc (.cells #[.bool r, .bool m, .bool i, .bool j] 32)) w.heap.size 32 #[.bool r, .bool m, .bool i, .bool j] := Blk.new _ _ _
    have hb0 : Below w.heap.size w (w.alloc (.cells #[.bool r, .bool m, .bool i, .bool j] 32)) := (Below.refl _ _).alloc (Nat.le_refl _) _
    generalize w.alloc (.cells #[.bool r, .bool m, .bool i, .bool j] 32) = w0 at *
    refine Cl.m (live11_calls _) ?_
    intro w1 hb1
    have hU1 : Blk w1 w.heap.size 32 #[.bool r, .bool m, .bool i, .bool j] := hU0.below hb1 hU0.lt
    have hb01 := hb0.trans (hb1.mono hb0.size)
    go_wp2_with fail
    refine (iqNew_calls _).mono ?_
    rintro e w2 ⟨g, rfl, hI2, hg, hb2⟩
    have hU2 := hU1.below hb2 hU1.lt
    have hb02 := hb01.trans (hb2.mono hb01.size)
    have hs1 := hb01.size
    have hgl := hI2.lt
    have hul := hU2.lt
    have hul1 := hU1.lt
    have hI3 : IB (w2.alloc (.cells #[.int .u8 0, .bool false] 28)) g 0 false := Blk.alloc hI2 _
    have hR3 : RI (w2.alloc (.cells #[.int .u8 0, .bool false] 28)) w2.heap.size 0 false := Blk.new _ _ _
    have hU3 : Blk (w2.alloc (.cells #[.int .u8 0, .bool false] 28)) w.heap.size 32 #[.bool r, .bool m, .bool i, .bool j] := hU2.alloc _
    have hb03 : Below w.heap.size w (w2.alloc (.cells #[.int .u8 0, .bool false] 28)) := hb02.alloc hb02.size _
    have hs2 := hb02.size
    go_wp2_with fail
    generalize w2.alloc (.cells #[.int .u8 0, .bool false] 28) = w3 at *
    generalize w2.heap.size = h at *
    clear hI2 hb2 hb1 hb02 hU2 hU1 hU0 hb0 hb01
    refine (play11_calls g h sa n cn 0 false Ra Ba w.heap.size _ (by omega) (by omega) (by omega) (by omega) n60 hI3 hR3 (hSa.below hb03)).mono ?_
    rintro e w4 ⟨rfl, d, u, hd, hI4, hR4, ho4⟩
    have hb04 := hb03.trans (ho4.below hb03.size (fun j e => by omega))
    have hU4 : Blk w4 w.heap.size 32 #[.bool r, .bool m, .bool i, .bool j] := hU3.only ho4 (by omega)
    clear hI3 hR3 hb03 ho4 hU3 w3
    have hch := iqChoose_calls (some ⟨g, 0, none⟩) d u r m i j k w4 (by omega) (.inr ⟨g, rfl, hI4⟩)
    rw [choose_nv _ _ _ _ _ _ d hd] at hch
    have y0 : w4.cell? ⟨w.heap.size, 0, none⟩ = some (.bool r) := hU4.cell 0
    have y1 : w4.cell? ⟨w.heap.size, 1, none⟩ = some (.bool m) := hU4.cell 1
    have y2 : w4.cell? ⟨w.heap.size, 2, none⟩ = some (.bool i) := hU4.cell 2
    have y3 : w4.cell? ⟨w.heap.size, 3, none⟩ = some (.bool j) := hU4.cell 3
    go_wp2_with fail
    obtain ⟨ta, hta⟩ : ∃ t, tb d 2 = t := ⟨_, rfl⟩
    obtain ⟨tb', htb⟩ : ∃ t, tb d 1 = t := ⟨_, rfl⟩
    obtain ⟨tc, htc⟩ : ∃ t, tb d 0 = t := ⟨_, rfl⟩
    rw [hta, htb, htc] at hch
    have hd256 : d < 256 := by omega
    cases r with
    | true =>
      have hch : Calls Try.prog 12 _ w4 fun e w' => e = .returned (.int .u8 1) ∧ Below w4.heap.size w4 w' := hch
      refine Cl.m hch ?_
      intro w5 hb5
      have hI5 : IB w5 g d u := Blk.below hI4 hb5 hI4.lt
      have hU5 := hU4.below hb5 hU4.lt
      have hb05 := hb04.trans (hb5.mono hb04.size)
      have z0 : w5.cell? ⟨w.heap.size, 0, none⟩ = some (.bool true) := hU5.cell 0
      have z1 : w5.cell? ⟨w.heap.size, 1, none⟩ = some (.bool m) := hU5.cell 1
      have z2 : w5.cell? ⟨w.heap.size, 2, none⟩ = some (.bool i) := hU5.cell 2
      have z3 : w5.cell? ⟨w.heap.size, 3, none⟩ = some (.bool j) := hU5.cell 3
      clear y0 y1 y2 y3 hI4 hU4 hch hb5 hb04 hR4
      go_wp2_with (first
        | (go_at_call 10; refine (iqDisable_calls g d _ _ hI5).mono ?_; rintro e w' ⟨rfl, rfl⟩)
        | (go_at_call 11; refine (iqDue_calls g d _ _ hI5).mono ?_; rintro e w' ⟨rfl, rfl⟩)
        | (go_at_call 13; refine (refBit_calls _ _ _ (by first | assumption | exact stB_lt _ _ _)).mono ?_; rintro e w' ⟨rfl, rfl⟩))
      go_ret
      first | exact ⟨by rfl, hb05⟩ | exact ⟨by rfl, hb05.trans (hbS.mono hb05.size)⟩
    | false =>
      cases m with
      | true =>
        have hch : Calls Try.prog 12 _ w4 fun e w' => e = .returned (.int .u8 2) ∧ Below w4.heap.size w4 w' := hch
        refine Cl.m hch ?_
        intro w5 hb5
        have hI5 : IB w5 g d u := Blk.below hI4 hb5 hI4.lt
        have hU5 := hU4.below hb5 hU4.lt
        have hb05 := hb04.trans (hb5.mono hb04.size)
        have z0 : w5.cell? ⟨w.heap.size, 0, none⟩ = some (.bool false) := hU5.cell 0
        have z1 : w5.cell? ⟨w.heap.size, 1, none⟩ = some (.bool true) := hU5.cell 1
        have z2 : w5.cell? ⟨w.heap.size, 2, none⟩ = some (.bool i) := hU5.cell 2
        have z3 : w5.cell? ⟨w.heap.size, 3, none⟩ = some (.bool j) := hU5.cell 3
        clear y0 y1 y2 y3 hI4 hU4 hch hb5 hb04 hR4
        go_wp2_with (first
          | (go_at_call 10; refine (iqDisable_calls g d _ _ hI5).mono ?_; rintro e w' ⟨rfl, rfl⟩)
          | (go_at_call 11; refine (iqDue_calls g d _ _ hI5).mono ?_; rintro e w' ⟨rfl, rfl⟩)
          | (go_at_call 13; refine (refBit_calls _ _ _ (by first | assumption | exact stB_lt _ _ _)).mono ?_; rintro e w' ⟨rfl, rfl⟩))
        go_ret
        first | exact ⟨by rfl, hb05⟩ | exact ⟨by rfl, hb05.trans (hbS.mono hb05.size)⟩
      | false =>
        cases k with
        | true =>
          have hch : Calls Try.prog 12 _ w4 fun e w' => e = .returned (.int .u8 0) ∧ Below w4.heap.size w4 w' := hch
          refine Cl.m hch ?_
          intro w5 hb5
          have hI5 : IB w5 g d u := Blk.below hI4 hb5 hI4.lt
          have hU5 := hU4.below hb5 hU4.lt
          have hb05 := hb04.trans (hb5.mono hb04.size)
          have z0 : w5.cell? ⟨w.heap.size, 0, none⟩ = some (.bool false) := hU5.cell 0
          have z1 : w5.cell? ⟨w.heap.size, 1, none⟩ = some (.bool false) := hU5.cell 1
          have z2 : w5.cell? ⟨w.heap.size, 2, none⟩ = some (.bool i) := hU5.cell 2
          have z3 : w5.cell? ⟨w.heap.size, 3, none⟩ = some (.bool j) := hU5.cell 3
          clear y0 y1 y2 y3 hI4 hU4 hch hb5 hb04 hR4
          go_wp2_with (first
            | (go_at_call 10; refine (iqDisable_calls g d _ _ hI5).mono ?_; rintro e w' ⟨rfl, rfl⟩)
            | (go_at_call 11; refine (iqDue_calls g d _ _ hI5).mono ?_; rintro e w' ⟨rfl, rfl⟩)
            | (go_at_call 13; refine (refBit_calls _ _ _ (by first | assumption | exact stB_lt _ _ _)).mono ?_; rintro e w' ⟨rfl, rfl⟩))
          go_ret
          first | exact ⟨by rfl, hb05⟩ | exact ⟨by rfl, hb05.trans (hbS.mono hb05.size)⟩
        | false =>
          cases u with
          | false =>
            cases i with
            | false =>
              cases j with
              | false =>
                have hch : Calls Try.prog 12 _ w4 fun e w' => e = .returned (.int .u8 0) ∧ Below w4.heap.size w4 w' := hch
                refine Cl.m hch ?_
                intro w5 hb5
                have hI5 : IB w5 g d false := Blk.below hI4 hb5 hI4.lt
                have hU5 := hU4.below hb5 hU4.lt
                have hb05 := hb04.trans (hb5.mono hb04.size)
                have z0 : w5.cell? ⟨w.heap.size, 0, none⟩ = some (.bool false) := hU5.cell 0
                have z1 : w5.cell? ⟨w.heap.size, 1, none⟩ = some (.bool false) := hU5.cell 1
                have z2 : w5.cell? ⟨w.heap.size, 2, none⟩ = some (.bool false) := hU5.cell 2
                have z3 : w5.cell? ⟨w.heap.size, 3, none⟩ = some (.bool false) := hU5.cell 3
                clear y0 y1 y2 y3 hI4 hU4 hch hb5 hb04 hR4
                go_wp2_with (first
                  | (go_at_call 10; refine (iqDisable_calls g d _ _ hI5).mono ?_; rintro e w' ⟨rfl, rfl⟩)
                  | (go_at_call 11; refine (iqDue_calls g d _ _ hI5).mono ?_; rintro e w' ⟨rfl, rfl⟩)
                  | (go_at_call 13; refine (refBit_calls _ _ _ (by first | assumption | exact stB_lt _ _ _)).mono ?_; rintro e w' ⟨rfl, rfl⟩))
                go_ret
                first | exact ⟨by rfl, hb05⟩ | exact ⟨by rfl, hb05.trans (hbS.mono hb05.size)⟩
              | true =>
                cases tc with
                | false =>
                  have hch : Calls Try.prog 12 _ w4 fun e w' => e = .returned (.int .u8 5) ∧ Below w4.heap.size w4 w' := hch
                  refine Cl.m hch ?_
                  intro w5 hb5
                  have hI5 : IB w5 g d false := Blk.below hI4 hb5 hI4.lt
                  have hU5 := hU4.below hb5 hU4.lt
                  have hb05 := hb04.trans (hb5.mono hb04.size)
                  have z0 : w5.cell? ⟨w.heap.size, 0, none⟩ = some (.bool false) := hU5.cell 0
                  have z1 : w5.cell? ⟨w.heap.size, 1, none⟩ = some (.bool false) := hU5.cell 1
                  have z2 : w5.cell? ⟨w.heap.size, 2, none⟩ = some (.bool false) := hU5.cell 2
                  have z3 : w5.cell? ⟨w.heap.size, 3, none⟩ = some (.bool true) := hU5.cell 3
                  clear y0 y1 y2 y3 hI4 hU4 hch hb5 hb04 hR4
                  have hBit : ∀ W, Calls Try.prog 14 #[.int .u8 5] W fun e w' => e = .returned (.int .i64 0) ∧ W = w' := fun W => iqBit_calls 5 W
                  have hsb : tb (stB false false true) 0 = true := st_bit0 _ _ _
                  go_wp2_with (first
                    | (go_at_call 10; refine (iqDisable_calls g d _ _ hI5).mono ?_; rintro e w' ⟨rfl, rfl⟩)
                    | (go_at_call 11; refine (iqDue_calls g d _ _ hI5).mono ?_; rintro e w' ⟨rfl, rfl⟩)
                    | (go_at_call 15; refine (iqStatus_calls (some ⟨g, 0, none⟩) d false false true _ (.inr ⟨g, rfl, hI5⟩)).mono ?_; rintro e wS ⟨rfl, hbS⟩)
                    | (go_at_call 14; refine (hBit _).mono ?_; rintro e w' ⟨rfl, rfl⟩)
                    | (go_at_call 13; refine (refBit_calls _ _ _ (by first | assumption | exact stB_lt _ _ _)).mono ?_; rintro e w' ⟨rfl, rfl⟩))
                  go_ret
                  first | exact ⟨by rfl, hb05⟩ | exact ⟨by rfl, hb05.trans (hbS.mono hb05.size)⟩
                | true =>
                  have hch : Calls Try.prog 12 _ w4 fun e w' => e = .returned (.int .u8 0) ∧ Below w4.heap.size w4 w' := hch
                  refine Cl.m hch ?_
                  intro w5 hb5
                  have hI5 : IB w5 g d false := Blk.below hI4 hb5 hI4.lt
                  have hU5 := hU4.below hb5 hU4.lt
                  have hb05 := hb04.trans (hb5.mono hb04.size)
                  have z0 : w5.cell? ⟨w.heap.size, 0, none⟩ = some (.bool false) := hU5.cell 0
                  have z1 : w5.cell? ⟨w.heap.size, 1, none⟩ = some (.bool false) := hU5.cell 1
                  have z2 : w5.cell? ⟨w.heap.size, 2, none⟩ = some (.bool false) := hU5.cell 2
                  have z3 : w5.cell? ⟨w.heap.size, 3, none⟩ = some (.bool true) := hU5.cell 3
                  clear y0 y1 y2 y3 hI4 hU4 hch hb5 hb04 hR4
                  go_wp2_with (first
                    | (go_at_call 10; refine (iqDisable_calls g d _ _ hI5).mono ?_; rintro e w' ⟨rfl, rfl⟩)
                    | (go_at_call 11; refine (iqDue_calls g d _ _ hI5).mono ?_; rintro e w' ⟨rfl, rfl⟩)
                    | (go_at_call 13; refine (refBit_calls _ _ _ (by first | assumption | exact stB_lt _ _ _)).mono ?_; rintro e w' ⟨rfl, rfl⟩))
                  go_ret
                  first | exact ⟨by rfl, hb05⟩ | exact ⟨by rfl, hb05.trans (hbS.mono hb05.size)⟩
            | true =>
              cases tb' with
              | false =>
                have hch : Calls Try.prog 12 _ w4 fun e w' => e = .returned (.int .u8 4) ∧ Below w4.heap.size w4 w' := hch
                refine Cl.m hch ?_
                intro w5 hb5
                have hI5 : IB w5 g d false := Blk.below hI4 hb5 hI4.lt
                have hU5 := hU4.below hb5 hU4.lt
                have hb05 := hb04.trans (hb5.mono hb04.size)
                have z0 : w5.cell? ⟨w.heap.size, 0, none⟩ = some (.bool false) := hU5.cell 0
                have z1 : w5.cell? ⟨w.heap.size, 1, none⟩ = some (.bool false) := hU5.cell 1
                have z2 : w5.cell? ⟨w.heap.size, 2, none⟩ = some (.bool true) := hU5.cell 2
                have z3 : w5.cell? ⟨w.heap.size, 3, none⟩ = some (.bool j) := hU5.cell 3
                clear y0 y1 y2 y3 hI4 hU4 hch hb5 hb04 hR4
                have hBit : ∀ W, Calls Try.prog 14 #[.int .u8 4] W fun e w' => e = .returned (.int .i64 1) ∧ W = w' := fun W => iqBit_calls 4 W
                have hsb : tb (stB false true j) 1 = true := st_bit1 _ _ _
                go_wp2_with (first
                  | (go_at_call 10; refine (iqDisable_calls g d _ _ hI5).mono ?_; rintro e w' ⟨rfl, rfl⟩)
                  | (go_at_call 11; refine (iqDue_calls g d _ _ hI5).mono ?_; rintro e w' ⟨rfl, rfl⟩)
                  | (go_at_call 15; refine (iqStatus_calls (some ⟨g, 0, none⟩) d false true j _ (.inr ⟨g, rfl, hI5⟩)).mono ?_; rintro e wS ⟨rfl, hbS⟩)
                  | (go_at_call 14; refine (hBit _).mono ?_; rintro e w' ⟨rfl, rfl⟩)
                  | (go_at_call 13; refine (refBit_calls _ _ _ (by first | assumption | exact stB_lt _ _ _)).mono ?_; rintro e w' ⟨rfl, rfl⟩))
                go_ret
                first | exact ⟨by rfl, hb05⟩ | exact ⟨by rfl, hb05.trans (hbS.mono hb05.size)⟩
              | true =>
                cases j with
                | false =>
                  have hch : Calls Try.prog 12 _ w4 fun e w' => e = .returned (.int .u8 0) ∧ Below w4.heap.size w4 w' := hch
                  refine Cl.m hch ?_
                  intro w5 hb5
                  have hI5 : IB w5 g d false := Blk.below hI4 hb5 hI4.lt
                  have hU5 := hU4.below hb5 hU4.lt
                  have hb05 := hb04.trans (hb5.mono hb04.size)
                  have z0 : w5.cell? ⟨w.heap.size, 0, none⟩ = some (.bool false) := hU5.cell 0
                  have z1 : w5.cell? ⟨w.heap.size, 1, none⟩ = some (.bool false) := hU5.cell 1
                  have z2 : w5.cell? ⟨w.heap.size, 2, none⟩ = some (.bool true) := hU5.cell 2
                  have z3 : w5.cell? ⟨w.heap.size, 3, none⟩ = some (.bool false) := hU5.cell 3
                  clear y0 y1 y2 y3 hI4 hU4 hch hb5 hb04 hR4
                  go_wp2_with (first
                    | (go_at_call 10; refine (iqDisable_calls g d _ _ hI5).mono ?_; rintro e w' ⟨rfl, rfl⟩)
                    | (go_at_call 11; refine (iqDue_calls g d _ _ hI5).mono ?_; rintro e w' ⟨rfl, rfl⟩)
                    | (go_at_call 13; refine (refBit_calls _ _ _ (by first | assumption | exact stB_lt _ _ _)).mono ?_; rintro e w' ⟨rfl, rfl⟩))
                  go_ret
                  first | exact ⟨by rfl, hb05⟩ | exact ⟨by rfl, hb05.trans (hbS.mono hb05.size)⟩
                | true =>
                  cases tc with
                  | false =>
                    have hch : Calls Try.prog 12 _ w4 fun e w' => e = .returned (.int .u8 5) ∧ Below w4.heap.size w4 w' := hch
                    refine Cl.m hch ?_
                    intro w5 hb5
                    have hI5 : IB w5 g d false := Blk.below hI4 hb5 hI4.lt
                    have hU5 := hU4.below hb5 hU4.lt
                    have hb05 := hb04.trans (hb5.mono hb04.size)
                    have z0 : w5.cell? ⟨w.heap.size, 0, none⟩ = some (.bool false) := hU5.cell 0
                    have z1 : w5.cell? ⟨w.heap.size, 1, none⟩ = some (.bool false) := hU5.cell 1
                    have z2 : w5.cell? ⟨w.heap.size, 2, none⟩ = some (.bool true) := hU5.cell 2
                    have z3 : w5.cell? ⟨w.heap.size, 3, none⟩ = some (.bool true) := hU5.cell 3
                    clear y0 y1 y2 y3 hI4 hU4 hch hb5 hb04 hR4
                    have hBit : ∀ W, Calls Try.prog 14 #[.int .u8 5] W fun e w' => e = .returned (.int .i64 0) ∧ W = w' := fun W => iqBit_calls 5 W
                    have hsb : tb (stB false true true) 0 = true := st_bit0 _ _ _
                    go_wp2_with (first
                      | (go_at_call 10; refine (iqDisable_calls g d _ _ hI5).mono ?_; rintro e w' ⟨rfl, rfl⟩)
                      | (go_at_call 11; refine (iqDue_calls g d _ _ hI5).mono ?_; rintro e w' ⟨rfl, rfl⟩)
                      | (go_at_call 15; refine (iqStatus_calls (some ⟨g, 0, none⟩) d false true true _ (.inr ⟨g, rfl, hI5⟩)).mono ?_; rintro e wS ⟨rfl, hbS⟩)
                      | (go_at_call 14; refine (hBit _).mono ?_; rintro e w' ⟨rfl, rfl⟩)
                      | (go_at_call 13; refine (refBit_calls _ _ _ (by first | assumption | exact stB_lt _ _ _)).mono ?_; rintro e w' ⟨rfl, rfl⟩))
                    go_ret
                    first | exact ⟨by rfl, hb05⟩ | exact ⟨by rfl, hb05.trans (hbS.mono hb05.size)⟩
                  | true =>
                    have hch : Calls Try.prog 12 _ w4 fun e w' => e = .returned (.int .u8 0) ∧ Below w4.heap.size w4 w' := hch
                    refine Cl.m hch ?_
                    intro w5 hb5
                    have hI5 : IB w5 g d false := Blk.below hI4 hb5 hI4.lt
                    have hU5 := hU4.below hb5 hU4.lt
                    have hb05 := hb04.trans (hb5.mono hb04.size)
                    have z0 : w5.cell? ⟨w.heap.size, 0, none⟩ = some (.bool false) := hU5.cell 0
                    have z1 : w5.cell? ⟨w.heap.size, 1, none⟩ = some (.bool false) := hU5.cell 1
                    have z2 : w5.cell? ⟨w.heap.size, 2, none⟩ = some (.bool true) := hU5.cell 2
                    have z3 : w5.cell? ⟨w.heap.size, 3, none⟩ = some (.bool true) := hU5.cell 3
                    clear y0 y1 y2 y3 hI4 hU4 hch hb5 hb04 hR4
                    go_wp2_with (first
                      | (go_at_call 10; refine (iqDisable_calls g d _ _ hI5).mono ?_; rintro e w' ⟨rfl, rfl⟩)
                      | (go_at_call 11; refine (iqDue_calls g d _ _ hI5).mono ?_; rintro e w' ⟨rfl, rfl⟩)
                      | (go_at_call 13; refine (refBit_calls _ _ _ (by first | assumption | exact stB_lt _ _ _)).mono ?_; rintro e w' ⟨rfl, rfl⟩))
                    go_ret
                    first | exact ⟨by rfl, hb05⟩ | exact ⟨by rfl, hb05.trans (hbS.mono hb05.size)⟩
          | true =>
            cases ta with
            | false =>
              have hch : Calls Try.prog 12 _ w4 fun e w' => e = .returned (.int .u8 3) ∧ Below w4.heap.size w4 w' := hch
              refine Cl.m hch ?_
              intro w5 hb5
              have hI5 : IB w5 g d true := Blk.below hI4 hb5 hI4.lt
              have hU5 := hU4.below hb5 hU4.lt
              have hb05 := hb04.trans (hb5.mono hb04.size)
              have z0 : w5.cell? ⟨w.heap.size, 0, none⟩ = some (.bool false) := hU5.cell 0
              have z1 : w5.cell? ⟨w.heap.size, 1, none⟩ = some (.bool false) := hU5.cell 1
              have z2 : w5.cell? ⟨w.heap.size, 2, none⟩ = some (.bool i) := hU5.cell 2
              have z3 : w5.cell? ⟨w.heap.size, 3, none⟩ = some (.bool j) := hU5.cell 3
              clear y0 y1 y2 y3 hI4 hU4 hch hb5 hb04 hR4
              have hBit : ∀ W, Calls Try.prog 14 #[.int .u8 3] W fun e w' => e = .returned (.int .i64 2) ∧ W = w' := fun W => iqBit_calls 3 W
              have hsb : tb (stB true i j) 2 = true := st_bit2 _ _ _
              go_wp2_with (first
                | (go_at_call 10; refine (iqDisable_calls g d _ _ hI5).mono ?_; rintro e w' ⟨rfl, rfl⟩)
                | (go_at_call 11; refine (iqDue_calls g d _ _ hI5).mono ?_; rintro e w' ⟨rfl, rfl⟩)
                | (go_at_call 15; refine (iqStatus_calls (some ⟨g, 0, none⟩) d true i j _ (.inr ⟨g, rfl, hI5⟩)).mono ?_; rintro e wS ⟨rfl, hbS⟩)
                | (go_at_call 14; refine (hBit _).mono ?_; rintro e w' ⟨rfl, rfl⟩)
                | (go_at_call 13; refine (refBit_calls _ _ _ (by first | assumption | exact stB_lt _ _ _)).mono ?_; rintro e w' ⟨rfl, rfl⟩))
              go_ret
              first | exact ⟨by rfl, hb05⟩ | exact ⟨by rfl, hb05.trans (hbS.mono hb05.size)⟩
            | true =>
              cases i with
              | false =>
                cases j with
                | false =>
                  have hch : Calls Try.prog 12 _ w4 fun e w' => e = .returned (.int .u8 0) ∧ Below w4.heap.size w4 w' := hch
                  refine Cl.m hch ?_
                  intro w5 hb5
                  have hI5 : IB w5 g d true := Blk.below hI4 hb5 hI4.lt
                  have hU5 := hU4.below hb5 hU4.lt
                  have hb05 := hb04.trans (hb5.mono hb04.size)
                  have z0 : w5.cell? ⟨w.heap.size, 0, none⟩ = some (.bool false) := hU5.cell 0
                  have z1 : w5.cell? ⟨w.heap.size, 1, none⟩ = some (.bool false) := hU5.cell 1
                  have z2 : w5.cell? ⟨w.heap.size, 2, none⟩ = some (.bool false) := hU5.cell 2
                  have z3 : w5.cell? ⟨w.heap.size, 3, none⟩ = some (.bool false) := hU5.cell 3
                  clear y0 y1 y2 y3 hI4 hU4 hch hb5 hb04 hR4
                  go_wp2_with (first
                    | (go_at_call 10; refine (iqDisable_calls g d _ _ hI5).mono ?_; rintro e w' ⟨rfl, rfl⟩)
                    | (go_at_call 11; refine (iqDue_calls g d _ _ hI5).mono ?_; rintro e w' ⟨rfl, rfl⟩)
                    | (go_at_call 13; refine (refBit_calls _ _ _ (by first | assumption | exact stB_lt _ _ _)).mono ?_; rintro e w' ⟨rfl, rfl⟩))
                  go_ret
                  first | exact ⟨by rfl, hb05⟩ | exact ⟨by rfl, hb05.trans (hbS.mono hb05.size)⟩
                | true =>
                  cases tc with
                  | false =>
                    have hch : Calls Try.prog 12 _ w4 fun e w' => e = .returned (.int .u8 5) ∧ Below w4.heap.size w4 w' := hch
                    refine Cl.m hch ?_
                    intro w5 hb5
                    have hI5 : IB w5 g d true := Blk.below hI4 hb5 hI4.lt
                    have hU5 := hU4.below hb5 hU4.lt
                    have hb05 := hb04.trans (hb5.mono hb04.size)
                    have z0 : w5.cell? ⟨w.heap.size, 0, none⟩ = some (.bool false) := hU5.cell 0
                    have z1 : w5.cell? ⟨w.heap.size, 1, none⟩ = some (.bool false) := hU5.cell 1
                    have z2 : w5.cell? ⟨w.heap.size, 2, none⟩ = some (.bool false) := hU5.cell 2
                    have z3 : w5.cell? ⟨w.heap.size, 3, none⟩ = some (.bool true) := hU5.cell 3
                    clear y0 y1 y2 y3 hI4 hU4 hch hb5 hb04 hR4
                    have hBit : ∀ W, Calls Try.prog 14 #[.int .u8 5] W fun e w' => e = .returned (.int .i64 0) ∧ W = w' := fun W => iqBit_calls 5 W
                    have hsb : tb (stB true false true) 0 = true := st_bit0 _ _ _
                    go_wp2_with (first
                      | (go_at_call 10; refine (iqDisable_calls g d _ _ hI5).mono ?_; rintro e w' ⟨rfl, rfl⟩)
                      | (go_at_call 11; refine (iqDue_calls g d _ _ hI5).mono ?_; rintro e w' ⟨rfl, rfl⟩)
                      | (go_at_call 15; refine (iqStatus_calls (some ⟨g, 0, none⟩) d true false true _ (.inr ⟨g, rfl, hI5⟩)).mono ?_; rintro e wS ⟨rfl, hbS⟩)
                      | (go_at_call 14; refine (hBit _).mono ?_; rintro e w' ⟨rfl, rfl⟩)
                      | (go_at_call 13; refine (refBit_calls _ _ _ (by first | assumption | exact stB_lt _ _ _)).mono ?_; rintro e w' ⟨rfl, rfl⟩))
                    go_ret
                    first | exact ⟨by rfl, hb05⟩ | exact ⟨by rfl, hb05.trans (hbS.mono hb05.size)⟩
                  | true =>
                    have hch : Calls Try.prog 12 _ w4 fun e w' => e = .returned (.int .u8 0) ∧ Below w4.heap.size w4 w' := hch
                    refine Cl.m hch ?_
                    intro w5 hb5
                    have hI5 : IB w5 g d true := Blk.below hI4 hb5 hI4.lt
                    have hU5 := hU4.below hb5 hU4.lt
                    have hb05 := hb04.trans (hb5.mono hb04.size)
                    have z0 : w5.cell? ⟨w.heap.size, 0, none⟩ = some (.bool false) := hU5.cell 0
                    have z1 : w5.cell? ⟨w.heap.size, 1, none⟩ = some (.bool false) := hU5.cell 1
                    have z2 : w5.cell? ⟨w.heap.size, 2, none⟩ = some (.bool false) := hU5.cell 2
                    have z3 : w5.cell? ⟨w.heap.size, 3, none⟩ = some (.bool true) := hU5.cell 3
                    clear y0 y1 y2 y3 hI4 hU4 hch hb5 hb04 hR4
                    go_wp2_with (first
                      | (go_at_call 10; refine (iqDisable_calls g d _ _ hI5).mono ?_; rintro e w' ⟨rfl, rfl⟩)
                      | (go_at_call 11; refine (iqDue_calls g d _ _ hI5).mono ?_; rintro e w' ⟨rfl, rfl⟩)
                      | (go_at_call 13; refine (refBit_calls _ _ _ (by first | assumption | exact stB_lt _ _ _)).mono ?_; rintro e w' ⟨rfl, rfl⟩))
                    go_ret
                    first | exact ⟨by rfl, hb05⟩ | exact ⟨by rfl, hb05.trans (hbS.mono hb05.size)⟩
              | true =>
                cases tb' with
                | false =>
                  have hch : Calls Try.prog 12 _ w4 fun e w' => e = .returned (.int .u8 4) ∧ Below w4.heap.size w4 w' := hch
                  refine Cl.m hch ?_
                  intro w5 hb5
                  have hI5 : IB w5 g d true := Blk.below hI4 hb5 hI4.lt
                  have hU5 := hU4.below hb5 hU4.lt
                  have hb05 := hb04.trans (hb5.mono hb04.size)
                  have z0 : w5.cell? ⟨w.heap.size, 0, none⟩ = some (.bool false) := hU5.cell 0
                  have z1 : w5.cell? ⟨w.heap.size, 1, none⟩ = some (.bool false) := hU5.cell 1
                  have z2 : w5.cell? ⟨w.heap.size, 2, none⟩ = some (.bool true) := hU5.cell 2
                  have z3 : w5.cell? ⟨w.heap.size, 3, none⟩ = some (.bool j) := hU5.cell 3
                  clear y0 y1 y2 y3 hI4 hU4 hch hb5 hb04 hR4
                  have hBit : ∀ W, Calls Try.prog 14 #[.int .u8 4] W fun e w' => e = .returned (.int .i64 1) ∧ W = w' := fun W => iqBit_calls 4 W
                  have hsb : tb (stB true true j) 1 = true := st_bit1 _ _ _
                  go_wp2_with (first
                    | (go_at_call 10; refine (iqDisable_calls g d _ _ hI5).mono ?_; rintro e w' ⟨rfl, rfl⟩)
                    | (go_at_call 11; refine (iqDue_calls g d _ _ hI5).mono ?_; rintro e w' ⟨rfl, rfl⟩)
                    | (go_at_call 15; refine (iqStatus_calls (some ⟨g, 0, none⟩) d true true j _ (.inr ⟨g, rfl, hI5⟩)).mono ?_; rintro e wS ⟨rfl, hbS⟩)
                    | (go_at_call 14; refine (hBit _).mono ?_; rintro e w' ⟨rfl, rfl⟩)
                    | (go_at_call 13; refine (refBit_calls _ _ _ (by first | assumption | exact stB_lt _ _ _)).mono ?_; rintro e w' ⟨rfl, rfl⟩))
                  go_ret
                  first | exact ⟨by rfl, hb05⟩ | exact ⟨by rfl, hb05.trans (hbS.mono hb05.size)⟩
                | true =>
                  cases j with
                  | false =>
                    have hch : Calls Try.prog 12 _ w4 fun e w' => e = .returned (.int .u8 0) ∧ Below w4.heap.size w4 w' := hch
                    refine Cl.m hch ?_
                    intro w5 hb5
                    have hI5 : IB w5 g d true := Blk.below hI4 hb5 hI4.lt
                    have hU5 := hU4.below hb5 hU4.lt
                    have hb05 := hb04.trans (hb5.mono hb04.size)
                    have z0 : w5.cell? ⟨w.heap.size, 0, none⟩ = some (.bool false) := hU5.cell 0
                    have z1 : w5.cell? ⟨w.heap.size, 1, none⟩ = some (.bool false) := hU5.cell 1
                    have z2 : w5.cell? ⟨w.heap.size, 2, none⟩ = some (.bool true) := hU5.cell 2
                    have z3 : w5.cell? ⟨w.heap.size, 3, none⟩ = some (.bool false) := hU5.cell 3
                    clear y0 y1 y2 y3 hI4 hU4 hch hb5 hb04 hR4
                    go_wp2_with (first
                      | (go_at_call 10; refine (iqDisable_calls g d _ _ hI5).mono ?_; rintro e w' ⟨rfl, rfl⟩)
                      | (go_at_call 11; refine (iqDue_calls g d _ _ hI5).mono ?_; rintro e w' ⟨rfl, rfl⟩)
                      | (go_at_call 13; refine (refBit_calls _ _ _ (by first | assumption | exact stB_lt _ _ _)).mono ?_; rintro e w' ⟨rfl, rfl⟩))
                    go_ret
                    first | exact ⟨by rfl, hb05⟩ | exact ⟨by rfl, hb05.trans (hbS.mono hb05.size)⟩
                  | true =>
                    cases tc with
                    | false =>
                      have hch : Calls Try.prog 12 _ w4 fun e w' => e = .returned (.int .u8 5) ∧ Below w4.heap.size w4 w' := hch
                      refine Cl.m hch ?_
                      intro w5 hb5
                      have hI5 : IB w5 g d true := Blk.below hI4 hb5 hI4.lt
                      have hU5 := hU4.below hb5 hU4.lt
                      have hb05 := hb04.trans (hb5.mono hb04.size)
                      have z0 : w5.cell? ⟨w.heap.size, 0, none⟩ = some (.bool false) := hU5.cell 0
                      have z1 : w5.cell? ⟨w.heap.size, 1, none⟩ = some (.bool false) := hU5.cell 1
                      have z2 : w5.cell? ⟨w.heap.size, 2, none⟩ = some (.bool true) := hU5.cell 2
                      have z3 : w5.cell? ⟨w.heap.size, 3, none⟩ = some (.bool true) := hU5.cell 3
                      clear y0 y1 y2 y3 hI4 hU4 hch hb5 hb04 hR4
                      have hBit : ∀ W, Calls Try.prog 14 #[.int .u8 5] W fun e w' => e = .returned (.int .i64 0) ∧ W = w' := fun W => iqBit_calls 5 W
                      have hsb : tb (stB true true true) 0 = true := st_bit0 _ _ _
                      go_wp2_with (first
                        | (go_at_call 10; refine (iqDisable_calls g d _ _ hI5).mono ?_; rintro e w' ⟨rfl, rfl⟩)
                        | (go_at_call 11; refine (iqDue_calls g d _ _ hI5).mono ?_; rintro e w' ⟨rfl, rfl⟩)
                        | (go_at_call 15; refine (iqStatus_calls (some ⟨g, 0, none⟩) d true true true _ (.inr ⟨g, rfl, hI5⟩)).mono ?_; rintro e wS ⟨rfl, hbS⟩)
                        | (go_at_call 14; refine (hBit _).mono ?_; rintro e w' ⟨rfl, rfl⟩)
                        | (go_at_call 13; refine (refBit_calls _ _ _ (by first | assumption | exact stB_lt _ _ _)).mono ?_; rintro e w' ⟨rfl, rfl⟩))
                      go_ret
                      first | exact ⟨by rfl, hb05⟩ | exact ⟨by rfl, hb05.trans (hbS.mono hb05.size)⟩
                    | true =>
                      have hch : Calls Try.prog 12 _ w4 fun e w' => e = .returned (.int .u8 0) ∧ Below w4.heap.size w4 w' := hch
                      refine Cl.m hch ?_
                      intro w5 hb5
                      have hI5 : IB w5 g d true := Blk.below hI4 hb5 hI4.lt
                      have hU5 := hU4.below hb5 hU4.lt
                      have hb05 := hb04.trans (hb5.mono hb04.size)
                      have z0 : w5.cell? ⟨w.heap.size, 0, none⟩ = some (.bool false) := hU5.cell 0
                      have z1 : w5.cell? ⟨w.heap.size, 1, none⟩ = some (.bool false) := hU5.cell 1
                      have z2 : w5.cell? ⟨w.heap.size, 2, none⟩ = some (.bool true) := hU5.cell 2
                      have z3 : w5.cell? ⟨w.heap.size, 3, none⟩ = some (.bool true) := hU5.cell 3
                      clear y0 y1 y2 y3 hI4 hU4 hch hb5 hb04 hR4
                      go_wp2_with (first
                        | (go_at_call 10; refine (iqDisable_calls g d _ _ hI5).mono ?_; rintro e w' ⟨rfl, rfl⟩)
                        | (go_at_call 11; refine (iqDue_calls g d _ _ hI5).mono ?_; rintro e w' ⟨rfl, rfl⟩)
                        | (go_at_call 13; refine (refBit_calls _ _ _ (by first | assumption | exact stB_lt _ _ _)).mono ?_; rintro e w' ⟨rfl, rfl⟩))
                      go_ret
                      first | exact ⟨by rfl, hb05⟩ | exact ⟨by rfl, hb05.trans (hbS.mono hb05.size)⟩
section
open Go.ChangeShapes Go.WideShapes Go.ChangeAt
variable {H : Type} {enc : TypeId × Value → H} {P : Program} {w : World} {base : Nat} {spare : Nat → Bool} {held : Bool} {r : Reach} {b0 : Nat} {t e : TypeId} {v : Value} {d : DataW H} {ps : List MemPlace}
theorem open_four (ht : P.underlying t = some (.array 4 e)) (he : P.underlying e = some .bool) (hc : P.cellsOf e = 1) (hct : P.cellsOf t = 4)
    (hv : Value.okWide P w r b0 t v) (hd : DataW.Trod enc P w base spare held t v d ps) : ∃ a b c f : Bool, v = .agg #[.bool a, .bool b, .bool c, .bool f] := by
  obtain ⟨cs, rfl, hsz, _⟩ : ∃ cs, v = .agg cs ∧ cs.size = P.cellsOf t ∧ Row.okWide P w r b0 t cs := by simpa [Value.okWide, ht] using hv
  rw [hct] at hsz
  obtain ⟨fuel, hf⟩ := hd
  obtain ⟨xs, m, _, _, hl, hxn, hall⟩ := DataW.trod_array ht hf
  have hall2 : ∀ i, i < 4 → ∃ z : Bool, cs[i]? = some (.bool z) := by
    intro i hi
    have h1 := hall i hi
    rw [List.getElem?_eq_getElem (by omega), hc, Nat.mul_one] at h1
    obtain ⟨z, hz, _⟩ := DataW.trod_bool he h1
    refine ⟨z, ?_⟩
    have h2 : (((Value.agg cs).cells.toList.drop i).take 1)[0]? = some (.bool z) := by first | rw [hz]; rfl | (have := congrArg (fun l : List Value => l[0]?) hz; simpa using this)
    simpa [Value.cells, List.getElem?_take, List.getElem?_drop] using h2
  obtain ⟨a, ha⟩ := hall2 0 (by omega)
  obtain ⟨b, hb⟩ := hall2 1 (by omega)
  obtain ⟨c, hc'⟩ := hall2 2 (by omega)
  obtain ⟨f, hf'⟩ := hall2 3 (by omega)
  refine ⟨a, b, c, f, ?_⟩
  congr 1
  apply Array.ext_getElem?
  intro i
  match i with
  | 0 => exact ha
  | 1 => exact hb
  | 2 => exact hc'
  | 3 => exact hf'
  | n + 4 => rw [Array.getElem?_eq_none (by omega), Array.getElem?_eq_none (by simp)]
end
section
open Go.ChangeShapes Go.WideShapes Go.ChangeAt
variable {H : Type} {enc : TypeId × Value → H} {W : World} {base : Nat}
theorem walk_IrqNever {v0 v1 v2 : Value} {d0 d1 d2 : DataW H} {p0 p1 p2 : List MemPlace}
    (_hsh : W.ShapedOpen Try.prog) (_hsz : (DataW.weightsEach Try.prog [22, 32, 4] [d0, d1, d2]).all (· ≤ reachBytes) = true)
    (hv0 : Value.okWide Try.prog W .any base 22 v0) (hd0 : DataW.Trod enc Try.prog W 0 (fun _ => true) true 22 v0 d0 p0) (hv1 : Value.okWide Try.prog W .any base 32 v1) (hd1 : DataW.Trod enc Try.prog W 0 (fun _ => true) true 32 v1 d1 p1) (hv2 : Value.okWide Try.prog W .any base 4 v2) (hd2 : DataW.Trod enc Try.prog W 0 (fun _ => true) true 4 v2 d2 p2) :
    Calls Try.prog 4 #[v0, v1, v2] W fun e W' => e = .returned (.bool true) ∧ Below W.heap.size W W' := by
  obtain ⟨sa, n, cn, Ra, Ba, rfl, hSa⟩ := open_stp hv0 hd0
  obtain ⟨r, m, i, j, rfl⟩ := open_four Try.underlying32 Try.underlying4 (by kernel_rfl) (by kernel_rfl) hv1 hd1
  obtain ⟨k, rfl⟩ := open_yes Try.underlying4 hv2 hd2
  exact irqNever_calls sa n cn Ra Ba r m i j k W hSa
end
end Go.Proofs.Ytichdknfakmjlaa
