/-
  gannetlaw06: FeedGives.
-/
import Derived.Test.YtmkhnofhjbaanaaPlay06
import Derived.Test.YtmkhnofhjbaanaaL06
namespace Go.Proofs.Ytmkhnofhjbaanaa
open Go.RowKit

set_option maxHeartbeats 4000000 in
theorem feedGives_calls (o qa qb : Option Addr) (n c m cm k ck : Nat) (L Qa Qb : Nat → Int) (w : World) (hn : n ≤ 140737488355328)
    (hL : NumsAt w .u8 o n L) (hQa : NumsAt w .i64 qa m Qa) (hQb : NumsAt w .i64 qb k Qb)
    (ba : ∀ i, i < m → -9223372036854775808 ≤ Qa i ∧ Qa i ≤ 9223372036854775807) (bb : ∀ i, i < k → -9223372036854775808 ≤ Qb i ∧ Qb i ≤ 9223372036854775807) :
    Calls Try.prog 3 #[.slice o n c, .slice qa m cm, .slice qb k ck] w fun e w' => e = .returned (.bool true) ∧ Below w.heap.size w w' := by
  by_cases h1 : 300 < m
  · have i1 : (300 : Int) < (m : Int) := by omega
    go_enter Try.func3, Try.ntmps3
    (go_wp2_with fail; refine Cl.m (live06_calls _) ?_; intro w1 hb1)
    (go_wp2_with fail; go_ret; exact ⟨rfl, by (repeat (first | exact Below.refl _ _ | assumption | refine Below.drew ?_ | refine Bl.alloc ?_ _ | refine below_drewN ?_ _ | refine Bl.chain ?_ (by assumption) (Nat.le_refl _)))⟩)
  · have i1 : (decide ((300 : Int) < (m : Int))) = false := by rw [decide_eq_false_iff_not]; omega
    by_cases h2 : 300 < k
    · have i2 : (300 : Int) < (k : Int) := by omega
      clear h1
      go_enter Try.func3, Try.ntmps3
      (go_wp2_with fail; refine Cl.m (live06_calls _) ?_; intro w1 hb1)
      (go_wp2_with fail; go_ret; exact ⟨rfl, by (repeat (first | exact Below.refl _ _ | assumption | refine Below.drew ?_ | refine Bl.alloc ?_ _ | refine below_drewN ?_ _ | refine Bl.chain ?_ (by assumption) (Nat.le_refl _)))⟩)
    · have i2 : (decide ((300 : Int) < (k : Int))) = false := by rw [decide_eq_false_iff_not]; omega
      go_enter Try.func3, Try.ntmps3
      (go_wp2_with fail; refine Cl.m (live06_calls _) ?_; intro w1 hb1)
      have hsz1 := hb1.size
      go_wp2_with fail
      refine (fdNew_calls o n c L _ hn (hL.below hb1 (Nat.le_refl _))).mono ?_
      rintro e w2 ⟨g, o', c', rfl, hF2, hN2, hg, hb2⟩
      have hsz2 := hb2.size
      have hb12 : Below w.heap.size w w2 := hb1.trans (hb2.mono hsz1)
      go_wp2_with fail
      have hlg : g < w2.heap.size := hF2.lt
      have hb3 : Below w.heap.size w (w2.alloc (.cells #[.slice o n c, .int .i64 0] 29)) := Bl.alloc hb12 _
      have hR3 : RB (w2.alloc (.cells #[.slice o n c, .int .i64 0] 29)) w2.heap.size o n c 0 := Blk.new _ _ _
      have hF3 : FB (w2.alloc (.cells #[.slice o n c, .int .i64 0] 29)) g o' n c' 0 := hF2.alloc _
      have hN3 : NumsB (w2.alloc (.cells #[.slice o n c, .int .i64 0] 29)) .u8 o' n L g := hN2.only ((Only.refl (fun _ => False) w2).alloc _) (fun _ _ h => h)
      have lift : ∀ (kk : IntKind) (a : Option Addr) (len : Nat) (X : Nat → Int) (B : Nat), w.heap.size ≤ B → NumsAt w kk a len X → ∀ w', Only (fun j => w.heap.size ≤ j) w w' → NumsB w' kk a len X B := fun kk a len X B hB hX w' ho i hi => by
        obtain ⟨b, off, h1', h2', h3'⟩ := (hX.toB (Nat.le_refl _)).only ho (fun j hj e => by omega) i hi
        exact ⟨b, off, h1', by omega, h3'⟩
      have hL3 := lift .u8 o n L g (by omega) hL _ (Only.of hb3)
      have hQ3 := lift .i64 qa m Qa g (by omega) hQa _ (Only.of hb3)
      generalize hh : w2.heap.size = h at *
      generalize w2.alloc (.cells #[.slice o n c, .int .i64 0] 29) = w3 at *
      refine (play06_calls g h o' o qa n c' c m cm 0 L Qa w3 hlg (by omega) (by omega) hn hF3 hR3 hN3 hL3 hQ3 ba).mono ?_
      rintro e w4 ⟨rfl, T, hT, hF4, hR4, ho4⟩
      have hb14 : Below w.heap.size w w4 := hb3.trans (ho4.below hb3.size (fun j e => by omega))
      have hN4 : NumsB w4 .u8 o' n L g := hN3.only ho4 (fun j hj e => by omega)
      have hsz4 := hb14.size
      go_wp2_with fail
      refine (fdClone_calls g o' n c' T L _ hn hF4 hN4).mono ?_
      rintro e w5 ⟨g2, o2, c2, rfl, hF5, hN5, hg2, hb5⟩
      have hsz5 := hb5.size
      go_wp2_with fail
      refine (rfCopy_calls h o n c T _ (hR4.below hb5 hR4.lt)).mono ?_
      rintro e w6 ⟨h2', rfl, hR6, hh6, hb6⟩
      have hb16 : Below w.heap.size w w6 := (hb14.trans (hb5.mono hsz4)).trans (hb6.mono (by omega))
      have l1 : g < w4.heap.size := hF4.lt
      have l3 : h < w4.heap.size := hR4.lt
      have l4 : g2 < h2' := Nat.lt_of_lt_of_le hF5.lt hh6
      have cF6 : FB w6.drew g2 o2 n c2 T := (hF5.below hb6 hF5.lt).drew
      have cR6 : RB w6.drew h2' o n c T := hR6.drew
      have cN6 : NumsB w6.drew .u8 o2 n L g2 := hN5.only (S := fun _ => False) ((Only.of hb6).drew) (fun _ _ e => e)
      have cL6 := lift .u8 o n L g2 (by omega) hL w6.drew ((Only.of hb16).drew)
      have cQ6 := lift .i64 qb k Qb g2 (by omega) hQb w6.drew ((Only.of hb16).drew)
      have pF6 : FB w6.drew g o' n c' T := ((Blk.below hF4 hb5 hF4.lt).below hb6 (Blk.below hF4 hb5 hF4.lt).lt).drew
      have pR6 : RB w6.drew h o n c T := ((Blk.below hR4 hb5 hR4.lt).below hb6 (Blk.below hR4 hb5 hR4.lt).lt).drew
      have q1 : w6.drew.cell? ⟨h, 1, none⟩ = some (.int .i64 (T : Int)) := pR6.cell 1
      have e1 : (((n - T : Nat) : Int) == ((n - T : Nat) : Int)) = true := beq_self_eq_true _
      have e2 : ((T : Int) == (T : Int)) = true := beq_self_eq_true _
      go_wp2_with fail
      go_region_held3 (fun w' => w'.cell? ⟨h, 1, none⟩ = some (.int .i64 (T : Int))) (first | exact r9 | exact r8 | exact r7 | exact q1)
        (first
        | (go_at_call 8; refine (play06_calls g2 h2' o2 o qb n c2 c k ck T L Qb w6.drew l4 (by omega) (by omega) hn cF6 cR6 cN6 cL6 cQ6 bb).mono ?_; rintro e w7 ⟨rfl, T7, hT7, hF7, hR7, ho7⟩; have pF7 : FB w7 g o' n c' T := pF6.only ho7 (by omega); have pR7 : RB w7 h o n c T := pR6.only ho7 (by omega); have r7 : w7.cell? ⟨h, 1, none⟩ = some (.int .i64 (T : Int)) := pR7.cell 1)
        | (go_at_call 11; refine Cl.m (fdLeft_calls g o' n c' T w7 (by omega) hn pF7) ?_; intro w8 hb8; have pR8 : RB w8 h o n c T := pR7.below hb8 pR7.lt; have pF8 : FB w8 g o' n c' T := pF7.below hb8 pF7.lt; have r8 : w8.cell? ⟨h, 1, none⟩ = some (.int .i64 (T : Int)) := pR8.cell 1)
        | (go_at_call 12; refine Cl.m (rfLeft_calls h o n c T w8 (by omega) hn pR8) ?_; intro w9 hb9; have pR9 : RB w9 h o n c T := pR8.below hb9 pR8.lt; have pF9 : FB w9 g o' n c' T := pF8.below hb9 pF8.lt; have r9 : w9.cell? ⟨h, 1, none⟩ = some (.int .i64 (T : Int)) := pR9.cell 1)
        | (go_at_call 13; refine Cl.p (fdTaken_calls g o' n c' T w9 pF9) ?_))
      all_goals
        go_wp2_with fail
        go_ret
        have z0 := hb16.size
        have z1 := ho7.size
        have z2 : w6.drew.heap.size = w6.heap.size := rfl
        have z3 := hb8.size
        exact ⟨rfl, ((((Below.drew hb16).trans (ho7.below (by omega) (fun j e => by omega))).trans (hb8.mono (by omega))).trans (hb9.mono (by omega)))⟩
section
open Go.ChangeShapes Go.WideShapes Go.ChangeAt
variable {H : Type} {enc : TypeId × Value → H} {W : World} {base : Nat}
theorem walk_FeedGives {v0 v1 v2 : Value} {d0 d1 d2 : DataW H} {p0 p1 p2 : List MemPlace}
    (_hsh : W.ShapedOpen Try.prog) (_hsz : (DataW.weightsEach Try.prog [22, 23, 23] [d0, d1, d2]).all (· ≤ reachBytes) = true)
    (hv0 : Value.okWide Try.prog W .any base 22 v0) (hd0 : DataW.Trod enc Try.prog W 0 (fun _ => true) true 22 v0 d0 p0) (hv1 : Value.okWide Try.prog W .any base 23 v1) (hd1 : DataW.Trod enc Try.prog W 0 (fun _ => true) true 23 v1 d1 p1) (hv2 : Value.okWide Try.prog W .any base 23 v2) (hd2 : DataW.Trod enc Try.prog W 0 (fun _ => true) true 23 v2 d2 p2) :
    Calls Try.prog 3 #[v0, v1, v2] W fun e W' => e = .returned (.bool true) ∧ Below W.heap.size W W' := by
  obtain ⟨o, n, c, L, rfl, hL, _, _, _⟩ := open_nums Try.underlying22 Try.underlying5 (by kernel_rfl) hv0 hd0
  obtain ⟨qa, m, cm, Qa, rfl, hQa, _, _, ba⟩ := open_nums Try.underlying23 Try.underlying3 (by kernel_rfl) hv1 hd1
  obtain ⟨qb, k, ck, Qb, rfl, hQb, _, _, bb⟩ := open_nums Try.underlying23 Try.underlying3 (by kernel_rfl) hv2 hd2
  have hr := slice_reach _hsz Try.underlying22 hd0 (j := 0) rfl rfl
  have hb : Try.prog.bytesOf 5 = 1 := by kernel_rfl
  rw [hb] at hr
  have := reachBytes_lt
  exact feedGives_calls o qa qb n c m cm k ck L Qa Qb W (by omega) hL hQa hQb (fun i hi => bounds_i64 (ba i hi)) (fun i hi => bounds_i64 (bb i hi))
end
end Go.Proofs.Ytmkhnofhjbaanaa
