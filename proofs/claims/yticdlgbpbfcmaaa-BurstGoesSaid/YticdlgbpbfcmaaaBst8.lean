/-
  gannetlaw31: BurstGoes.
-/
import Derived.Test.YticdlgbpbfcmaaaBst7
import Derived.Test.YticdlgbpbfcmaaaOpenA
namespace Go.Proofs.Yticdlgbpbfcmaaa
open Go.RowKit

set_option maxRecDepth 100000 in
set_option maxHeartbeats 8000000 in
theorem burstGoes_calls (k l0 l1 l2 : Nat) (oa ob : Option Addr) (n m ca cb : Nat) (R M : Nat → Nat) (w : World) (h0 : l0 < 65536) (h1 : l1 < 65536) (h2 : l2 < 65536)
    (hR : NumsAt w .u8 oa n fun i => (R i : Int)) (hM : NumsAt w .u8 ob m fun i => (M i : Int)) :
    Calls Try.prog 3 #[.int .u8 (k : Int), .agg #[.int .u16 (l0 : Int), .int .u16 (l1 : Int), .int .u16 (l2 : Int)], .slice oa n ca, .slice ob m cb] w fun e w' => e = .returned (.bool true) ∧ Below w.heap.size w w' := by
  by_cases hn : 600 < n
  · have i1 : (600 : Int) < (n : Int) := by omega
    go_enter Try.func3, Try.ntmps3
    (go_wp2_with fail; refine Cl.m (live31_calls _) ?_; intro w1 hb1)
    (go_wp2_with fail; go_ret; exact ⟨rfl, by (repeat (first | exact Below.refl _ _ | assumption | refine Below.drew ?_ | refine Bl.alloc ?_ _ | refine below_drewN ?_ _ | refine Bl.chain ?_ (by assumption) (Nat.le_refl _)))⟩)
  · have i1 : (decide ((600 : Int) < (n : Int))) = false := by rw [decide_eq_false_iff_not]; omega
    by_cases hm : 600 < m
    · have i2 : (600 : Int) < (m : Int) := by omega
      clear hn
      go_enter Try.func3, Try.ntmps3
      (go_wp2_with fail; refine Cl.m (live31_calls _) ?_; intro w1 hb1)
      (go_wp2_with fail; go_ret; exact ⟨rfl, by (repeat (first | exact Below.refl _ _ | assumption | refine Below.drew ?_ | refine Bl.alloc ?_ _ | refine below_drewN ?_ _ | refine Bl.chain ?_ (by assumption) (Nat.le_refl _)))⟩)
    · have i2 : (decide ((600 : Int) < (m : Int))) = false := by rw [decide_eq_false_iff_not]; omega
      have hn6 : n ≤ 600 := by omega
      have hm6 : m ≤ 600 := by omega
      clear hn hm
      have hA0 : Blk (w.alloc (.cells #[.int .u16 (l0 : Int), .int .u16 (l1 : Int), .int .u16 (l2 : Int)] 23)) w.heap.size 23 #[.int .u16 (l0 : Int), .int .u16 (l1 : Int), .int .u16 (l2 : Int)] := Blk.new _ _ _
      have hbA : Below w.heap.size w (w.alloc (.cells #[.int .u16 (l0 : Int), .int .u16 (l1 : Int), .int .u16 (l2 : Int)] 23)) := Bl.alloc (Below.refl _ _) _
      by_cases hk4 : 5 ≤ k
      · have i3 : (4 : Int) < (k : Int) := by omega
        go_enter Try.func3, Try.ntmps3
        (go_wp2_with fail; refine Cl.m (live31_calls _) ?_; intro w1 hb1)
        have hA1 := hA0.below hb1 hA0.lt
        have c0 : w1.cell? ⟨w.heap.size, 0, none⟩ = some (.int .u16 (l0 : Int)) := hA1.cell 0
        have c1 : w1.cell? ⟨w.heap.size, 1, none⟩ = some (.int .u16 (l1 : Int)) := hA1.cell 1
        have c2 : w1.cell? ⟨w.heap.size, 2, none⟩ = some (.int .u16 (l2 : Int)) := hA1.cell 2
        (go_wp2_with fail; refine Cl.m (bsNewNoK_calls k l0 l1 l2 _ hk4) ?_; intro w2 hb2)
        (go_wp2_with fail; go_ret; exact ⟨rfl, by (repeat (first | exact Below.refl _ _ | assumption | refine Below.drew ?_ | refine Bl.alloc ?_ _ | refine below_drewN ?_ _ | refine Bl.chain ?_ (by assumption) (Nat.le_refl _)))⟩)
      · have i3 : (decide ((4 : Int) < (k : Int))) = false := by rw [decide_eq_false_iff_not]; omega
        have hk : k < 5 := by omega
        clear hk4
        go_enter Try.func3, Try.ntmps3
        (go_wp2_with fail; refine Cl.m (live31_calls _) ?_; intro w1 hb1)
        have hA1 := hA0.below hb1 hA0.lt
        have hb01 : Below w.heap.size w w1 := hbA.trans (hb1.mono hbA.size)
        have c0 : w1.cell? ⟨w.heap.size, 0, none⟩ = some (.int .u16 (l0 : Int)) := hA1.cell 0
        have c1 : w1.cell? ⟨w.heap.size, 1, none⟩ = some (.int .u16 (l1 : Int)) := hA1.cell 1
        have c2 : w1.cell? ⟨w.heap.size, 2, none⟩ = some (.int .u16 (l2 : Int)) := hA1.cell 2
        go_wp2_with fail
        refine (bsNew_calls k l0 l1 l2 _ hk h0 h1 h2).mono ?_
        rintro e w2 ⟨g, rfl, hB2, hg2, hb2⟩
        have hA2 := hA1.below hb2 hA1.lt
        have hb02 : Below w.heap.size w w2 := hb01.trans (hb2.mono hb01.size)
        have d0 : w2.cell? ⟨w.heap.size, 0, none⟩ = some (.int .u16 (l0 : Int)) := hA2.cell 0
        have d1 : w2.cell? ⟨w.heap.size, 1, none⟩ = some (.int .u16 (l1 : Int)) := hA2.cell 1
        have d2 : w2.cell? ⟨w.heap.size, 2, none⟩ = some (.int .u16 (l2 : Int)) := hA2.cell 2
        have hgA : w.heap.size < g := Nat.lt_of_lt_of_le hA1.lt hg2
        have hgh : g < w2.heap.size := hB2.lt
        go_wp2_with fail
        have hV3 : VB (w2.alloc (.cells #[.int .u8 (k : Int), .int .u16 (l0 : Int), .int .u16 (l1 : Int), .int .u16 (l2 : Int), .int .i64 0, .int .u8 0] 32)) w2.heap.size k l0 l1 l2 (6 * 0 + 0) 0 := Blk.new _ _ _
        have hB3 : BB (w2.alloc (.cells #[.int .u8 (k : Int), .int .u16 (l0 : Int), .int .u16 (l1 : Int), .int .u16 (l2 : Int), .int .i64 0, .int .u8 0] 32)) g k l0 l1 (cnt l2) 0 0 0 := Blk.alloc hB2 _
        have hA3 := hA2.alloc (.cells #[.int .u8 (k : Int), .int .u16 (l0 : Int), .int .u16 (l1 : Int), .int .u16 (l2 : Int), .int .i64 0, .int .u8 0] 32)
        have hb03 : Below w.heap.size w (w2.alloc (.cells #[.int .u8 (k : Int), .int .u16 (l0 : Int), .int .u16 (l1 : Int), .int .u16 (l2 : Int), .int .i64 0, .int .u8 0] 32)) := Bl.alloc hb02 _
        generalize hh : w2.heap.size = h at *
        generalize w2.alloc (.cells #[.int .u8 (k : Int), .int .u16 (l0 : Int), .int .u16 (l1 : Int), .int .u16 (l2 : Int), .int .i64 0, .int .u8 0] 32) = w3 at *
        refine Cl.m (alikeI_calls g h k l0 l1 l2 0 0 0 w3 hk h0 h1 h2 (Inv31.zero l2 h2) hB3 hV3) ?_
        intro w4 hb4
        have hB4 : BB w4 g k l0 l1 (cnt l2) 0 0 0 := Blk.below hB3 hb4 hB3.lt
        have hV4 : VB w4 h k l0 l1 l2 (6 * 0 + 0) 0 := Blk.below hV3 hb4 hV3.lt
        have hA4 := hA3.below hb4 hA3.lt
        have hb04 : Below w.heap.size w w4 := hb03.trans (hb4.mono hb03.size)
        clear hb1 hb2 hb4 hA0 hA1 hA2 hA3 hbA c0 c1 c2 d0 d1 d2
        have hR4 : NumsB w4 .u8 oa n (fun i => (R i : Int)) w.heap.size := (hR.toB (Nat.le_refl _)).only (S := fun j => w.heap.size ≤ j) ⟨hb04.os, hb04.tape, hb04.output, hb04.size, fun j hj hs => hb04.block j (by omega)⟩ (fun j hj e => by omega)
        have hM4 : NumsB w4 .u8 ob m (fun i => (M i : Int)) w.heap.size := (hM.toB (Nat.le_refl _)).only (S := fun j => w.heap.size ≤ j) ⟨hb04.os, hb04.tape, hb04.output, hb04.size, fun j hj hs => hb04.block j (by omega)⟩ (fun j hj e => by omega)
        go_wp2_with fail
        go_loopw [12] (fun i wr => ∃ j q ph dt : Nat, j ≤ n ∧ i = .int .i64 (j : Int) ∧ Inv31 l2 q ph ∧ BB wr g k l0 l1 (cnt l2) q ph dt ∧ VB wr h k l0 l1 l2 (6 * q + ph) dt ∧ Only (fun b => b = g ∨ b = h) w4 wr) (fun i _ => n - (intOf i).toNat)
        case atStart => exact ⟨0, 0, 0, 0, by omega, rfl, Inv31.zero l2 h2, hB4, hV4, Only.refl _ _⟩
        case round =>
          obtain ⟨j, q, ph, dt, hj, rfl, hi, hB, hV, hor⟩ := hrel
          by_cases hjn : j < n
          · have hjn' : (j : Int) < (n : Int) := by omega
            obtain ⟨b, off, hab, hbl, hcb⟩ := (hR4.only hor (fun q hq e => by omega)) j hjn
            subst hab
            go_wp2_with fail
            refine (bsGo_calls g k l0 l1 l2 q ph dt (R j) _ h2 hi hB).mono ?_
            rintro e w5 ⟨⟨v5, rfl⟩, hB5, ho5⟩
            have hV5 : VB w5 h k l0 l1 l2 (6 * q + ph) dt := Blk.only hV ho5 (by omega)
            have hcb5 : w5.cell? ⟨b, off + j, none⟩ = some (.int .u8 (R j : Int)) := (World.cell?_of_block (ho5.block b (cell_lt hcb) (by omega))).trans hcb
            go_wp2_with fail
            refine (vGo_calls h k l0 l1 l2 q ph dt (R j) _ h2 hi hV5).mono ?_
            rintro e w6 ⟨⟨v6, rfl⟩, hV6, ho6⟩
            have hB6 := Blk.only hB5 ho6 (by omega)
            go_wp2_with fail
            refine Cl.m (alikeI_calls g h k l0 l1 l2 _ _ _ _ hk h0 h1 h2 hi.next hB6 hV6) ?_
            intro w7 hb7
            go_wp2_with fail
            go_roundw
            case rel => exact ⟨j + 1, _, _, _, by omega, by go_num, hi.next, Blk.below hB6 hb7 (Blk.lt hB6), Blk.below hV6 hb7 (Blk.lt hV6), ((hor.trans (ho5.mono fun q _ e => Or.inl e)).trans (ho6.mono fun q _ e => Or.inr e)).trans (Only.of hb7)⟩
            case measure => simp [intOf]; omega
          · obtain rfl : j = n := by omega
            have hb4r : Below w.heap.size w wr := hb04.trans (hor.below hb04.size (fun q e => by omega))
            have hAr := hA4.only hor (by omega)
            have hMr := hM4.only hor (fun q hq e => by omega)
            go_wp2_with fail
            refine (bsClone_calls g k l0 l1 (cnt l2) q ph dt _ hB).mono ?_
            rintro e w5 ⟨g', rfl, hG5, hg5, hb5⟩
            have hb05 : Below w.heap.size w w5 := hb4r.trans (hb5.mono hb4r.size)
            have hA5 := hAr.below hb5 hAr.lt
            have hV5 : VB w5 h k l0 l1 l2 (6 * q + ph) dt := Blk.below hV hb5 hV.lt
            generalize ha : 6 * q + ph = a at hV5
            have hB5 : BB w5 g k l0 l1 (cnt l2) q ph dt := Blk.below hB hb5 hB.lt
            have hM5 : NumsB w5 .u8 ob m (fun i => (M i : Int)) w.heap.size := hMr.only (S := fun _ => False) (Only.of hb5) (fun j hj e => e)
            have hgh' : h < g' := Nat.lt_of_lt_of_le hV.lt hg5
            have e0 : w5.drew.cell? ⟨w.heap.size, 0, none⟩ = some (.int .u16 (l0 : Int)) := hA5.cell 0
            have e1 : w5.drew.cell? ⟨w.heap.size, 1, none⟩ = some (.int .u16 (l1 : Int)) := hA5.cell 1
            have e2 : w5.drew.cell? ⟨w.heap.size, 2, none⟩ = some (.int .u16 (l2 : Int)) := hA5.cell 2
            have e4 : w5.drew.cell? ⟨h, 4, none⟩ = some (.int .i64 (a : Int)) := hV5.cell 4
            have e5 : w5.drew.cell? ⟨h, 5, none⟩ = some (.int .u8 (dt : Int)) := hV5.cell 5
            go_wp2_with fail
            have q0 := hide hM5
            have q1 := hide hR4
            have q2 := hide hM4
            have q3 := hide hMr
            clear hM5 hR4 hM4 hMr hR hM hor hb5 hb4r hb04 hAr hB hV hB4 hV4 hA4
            have kB : ∀ o : Obj, (w5.alloc o).drew.cell? ⟨w.heap.size, 0, none⟩ = some (.int .u16 (l0 : Int)) ∧ (w5.alloc o).drew.cell? ⟨w.heap.size, 1, none⟩ = some (.int .u16 (l1 : Int)) ∧ (w5.alloc o).drew.cell? ⟨w.heap.size, 2, none⟩ = some (.int .u16 (l2 : Int)) ∧ (w5.alloc o).drew.cell? ⟨h, 4, none⟩ = some (.int .i64 (a : Int)) ∧ (w5.alloc o).drew.cell? ⟨h, 5, none⟩ = some (.int .u8 (dt : Int)) := fun o => ⟨(hA5.alloc o).cell 0, (hA5.alloc o).cell 1, (hA5.alloc o).cell 2, Blk.cell (Blk.alloc hV5 o) 4, Blk.cell (Blk.alloc hV5 o) 5⟩
            go_region_held3 (fun w' => w'.cell? ⟨w.heap.size, 0, none⟩ = some (.int .u16 (l0 : Int)) ∧ w'.cell? ⟨w.heap.size, 1, none⟩ = some (.int .u16 (l1 : Int)) ∧ w'.cell? ⟨w.heap.size, 2, none⟩ = some (.int .u16 (l2 : Int)) ∧ w'.cell? ⟨h, 4, none⟩ = some (.int .i64 (a : Int)) ∧ w'.cell? ⟨h, 5, none⟩ = some (.int .u8 (dt : Int))) (first | exact kB _ | exact ⟨e0, e1, e2, e4, e5⟩) (fail)
            have hX8 : VB (w5.alloc (.cells #[.int .u8 (k : Int), .int .u16 (l0 : Int), .int .u16 (l1 : Int), .int .u16 (l2 : Int), .int .i64 (a : Int), .int .u8 (dt : Int)] 32)).drew w5.heap.size k l0 l1 l2 (6 * q + ph) dt := by rw [ha]; exact Blk.new _ _ _
            have ho8 : Only (fun _ => False) w5 (w5.alloc (.cells #[.int .u8 (k : Int), .int .u16 (l0 : Int), .int .u16 (l1 : Int), .int .u16 (l2 : Int), .int .i64 (a : Int), .int .u8 (dt : Int)] 32)).drew := ((Only.refl _ _).alloc _).drew
            have hgx : g' < w5.heap.size := hG5.lt
            generalize hh8 : w5.heap.size = h' at *
            generalize (w5.alloc (.cells #[.int .u8 (k : Int), .int .u16 (l0 : Int), .int .u16 (l1 : Int), .int .u16 (l2 : Int), .int .i64 (a : Int), .int .u8 (dt : Int)] 32)).drew = w8 at *
            have hG8 : BB w8 g' k l0 l1 (cnt l2) q ph dt := Blk.only hG5 ho8 (fun e => e)
            have hB8 : BB w8 g k l0 l1 (cnt l2) q ph dt := Blk.only hB5 ho8 (fun e => e)
            have hV8 : VB w8 h k l0 l1 l2 (6 * q + ph) dt := by rw [ha]; exact Blk.only hV5 ho8 (fun e => e)
            have hM8 := q0.out.only ho8 (fun _ _ e => e)
            have hb08 : Below w.heap.size w w8 := hb05.trans (ho8.below hb05.size (fun _ e => e.elim))
            have hi8 := hi
            clear kB e0 e1 e2 e4 e5 q0 q1 q2 q3 hi hV5 hG5 hB5 hA5
            go_wp2_with fail
            go_loopw [15] (fun i wr => ∃ j q ph dt : Nat, j ≤ m ∧ i = .int .i64 (j : Int) ∧ Inv31 l2 q ph ∧ BB wr g' k l0 l1 (cnt l2) q ph dt ∧ VB wr h' k l0 l1 l2 (6 * q + ph) dt ∧ Only (fun b => b = g' ∨ b = h') w8 wr) (fun i _ => m - (intOf i).toNat)
            case atStart => exact ⟨0, q, ph, dt, by omega, rfl, hi8, hG8, hX8, Only.refl _ _⟩
            case round =>
              obtain ⟨y, q9, ph9, dt9, hj, rfl, hi, hB, hV, hor⟩ := hrel
              by_cases hjn : y < m
              · have hjn' : (y : Int) < (m : Int) := by omega
                obtain ⟨b, off, hab, hbl, hcb⟩ := (hM8.only hor (fun q hq e => by omega)) y hjn
                subst hab
                go_wp2_with fail
                refine (bsGo_calls g' k l0 l1 l2 q9 ph9 dt9 (M y) _ h2 hi hB).mono ?_
                rintro e wa ⟨⟨v5, rfl⟩, hBa, hoa⟩
                have hVa : VB wa h' k l0 l1 l2 (6 * q9 + ph9) dt9 := Blk.only hV hoa (by omega)
                have hcba : wa.cell? ⟨b, off + y, none⟩ = some (.int .u8 (M y : Int)) := (World.cell?_of_block (hoa.block b (cell_lt hcb) (by omega))).trans hcb
                go_wp2_with fail
                refine (vGo_calls h' k l0 l1 l2 q9 ph9 dt9 (M y) _ h2 hi hVa).mono ?_
                rintro e wb ⟨⟨v6, rfl⟩, hVb, hob⟩
                have hBb := Blk.only hBa hob (by omega)
                go_wp2_with fail
                refine Cl.m (alikeI_calls g' h' k l0 l1 l2 _ _ _ _ hk h0 h1 h2 hi.next hBb hVb) ?_
                intro wc hbc
                go_wp2_with fail
                go_roundw
                case rel => exact ⟨y + 1, _, _, _, by omega, by go_num, hi.next, Blk.below hBb hbc (Blk.lt hBb), Blk.below hVb hbc (Blk.lt hVb), ((hor.trans (hoa.mono fun q _ e => Or.inl e)).trans (hob.mono fun q _ e => Or.inr e)).trans (Only.of hbc)⟩
                case measure => simp [intOf]; omega
              · obtain rfl : y = m := by omega
                have hbr : Below w.heap.size w wr := hb08.trans (hor.below hb08.size (fun q e => by omega))
                have hBr : BB wr g k l0 l1 (cnt l2) q ph dt := Blk.only hB8 hor (by omega)
                have hVr : VB wr h k l0 l1 l2 (6 * q + ph) dt := Blk.only hV8 hor (by omega)
                (go_wp2_with fail; refine Cl.m (alikeI_calls g h k l0 l1 l2 q ph dt _ hk h0 h1 h2 hi8 hBr hVr) ?_; intro w9 hb9)
                (go_wp2_with fail; go_ret; exact ⟨rfl, by (repeat (first | exact Below.refl _ _ | assumption | refine Below.drew ?_ | refine Bl.alloc ?_ _ | refine below_drewN ?_ _ | refine Bl.chain ?_ (by assumption) (Nat.le_refl _)))⟩)
section
open Go.ChangeShapes Go.WideShapes Go.ChangeAt
variable {H : Type} {enc : TypeId × Value → H} {W : World} {base : Nat}
theorem walk_BurstGoes {v0 v1 v2 v3 : Value} {d0 d1 d2 d3 : DataW H} {p0 p1 p2 p3 : List MemPlace}
    (_hsh : W.ShapedOpen Try.prog) (_hsz : (DataW.weightsEach Try.prog [5, 23, 24, 24] [d0, d1, d2, d3]).all (· ≤ reachBytes) = true)
    (hv0 : Value.okWide Try.prog W .any base 5 v0) (hd0 : DataW.Trod enc Try.prog W 0 (fun _ => true) true 5 v0 d0 p0) (hv1 : Value.okWide Try.prog W .any base 23 v1) (hd1 : DataW.Trod enc Try.prog W 0 (fun _ => true) true 23 v1 d1 p1) (hv2 : Value.okWide Try.prog W .any base 24 v2) (hd2 : DataW.Trod enc Try.prog W 0 (fun _ => true) true 24 v2 d2 p2) (hv3 : Value.okWide Try.prog W .any base 24 v3) (hd3 : DataW.Trod enc Try.prog W 0 (fun _ => true) true 24 v3 d3 p3) :
    Calls Try.prog 3 #[v0, v1, v2, v3] W fun e W' => e = .returned (.bool true) ∧ Below W.heap.size W W' := by
  obtain ⟨x0, rfl, h0⟩ := open_u8 Try.underlying5 hv0 hd0
  obtain ⟨l, rfl, hl⟩ := open_arr Try.underlying23 Try.underlying22 (by kernel_rfl) (by kernel_rfl) hv1 hd1
  obtain ⟨oa, n, ca, R, rfl, hR, _, _⟩ := open_bytes Try.underlying24 Try.underlying5 (by kernel_rfl) hv2 hd2
  obtain ⟨ob, m, cb, M, rfl, hM, _, _⟩ := open_bytes Try.underlying24 Try.underlying5 (by kernel_rfl) hv3 hd3
  have b0 := bounds_u16 (hl 0 (by omega))
  have b1 := bounds_u16 (hl 1 (by omega))
  have b2 := bounds_u16 (hl 2 (by omega))
  have e : arr 3 (fun i => Value.int .u16 (l i)) = #[.int .u16 ((l 0).toNat : Int), .int .u16 ((l 1).toNat : Int), .int .u16 ((l 2).toNat : Int)] := by
    rw [Int.toNat_of_nonneg b0.1, Int.toNat_of_nonneg b1.1, Int.toNat_of_nonneg b2.1]
    rfl
  rw [e]
  exact burstGoes_calls x0 (l 0).toNat (l 1).toNat (l 2).toNat oa ob n m ca cb R M W (by omega) (by omega) (by omega) hR hM
end
end Go.Proofs.Yticdlgbpbfcmaaa
