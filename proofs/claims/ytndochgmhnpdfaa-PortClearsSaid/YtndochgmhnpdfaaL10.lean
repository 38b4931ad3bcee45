/-
  gannetlaw10: live, PortReads, PortClears.
-/
import Derived.Test.YtndochgmhnpdfaaL10a
import Derived.Test.YtndochgmhnpdfaaOpenS
namespace Go.Proofs.Ytndochgmhnpdfaa
open Go.RowKit

theorem nums_lit (w : World) (k : IntKind) (zs : List Int) (t : TypeId) (cs : Array Value) (hcs : cs = (zs.map (Value.int k)).toArray) : NumsAt (w.alloc (.cells cs t)) k (some ⟨w.heap.size, 0, none⟩) zs.length (fun i => zs.getD i 0) := by
  subst hcs
  intro i hi
  refine ⟨_, 0, rfl, by simp, ?_⟩
  rw [Nat.zero_add, cell_of_row _ w.heap.size i (zs.map (Value.int k)).toArray t (0, 0) (heap_alloc_new w _)]
  simp [List.getD, hi]
theorem Cl.v {P : Program} {f : FuncId} {a : Array Value} {w : World} {Q : Ending → World → Prop} (h : Calls P f a w fun e w' => (∃ v, e = .returned v) ∧ w = w') (k : ∀ v, Q (.returned v) w) : Calls P f a w Q :=
  h.mono fun _ _ h => by obtain ⟨⟨v, rfl⟩, rfl⟩ := h; exact k v
theorem live10_calls (w : World) : Calls Try.prog 5 #[] w fun e w' => e = .returned (.bool true) ∧ Below w.heap.size w w' := by
  have hL := nums_lit w .u8 [90, 90] 5 #[.int .u8 90, .int .u8 90] rfl
  have v0 : nxV (fun i => [90, 90].getD i 0) 2 0 = ((90 : Nat) : Int) := rfl
  have v1 : nxV (fun i => [90, 90].getD i 0) 2 1 = ((90 : Nat) : Int) := rfl
  have v2 : nxV (fun i => [90, 90].getD i 0) 2 2 = ((255 : Nat) : Int) := rfl
  have V0 := hide v0
  have V1 := hide v1
  have V2 := hide v2
  clear v0 v1 v2
  go_enter Try.func5, Try.ntmps5
  go_wp2_with fail
  refine (ptNew_calls _ 2 2 (fun i => [90, 90].getD i 0) _ (by omega) hL).mono ?_
  rintro e w1 ⟨g, gf, o, c, rfl, hP1, hF1, hN1, hgf, hlt, hb1⟩
  have hne : g ≠ gf := by omega
  go_wp2_with fail
  refine (ptRead_calls g gf 0 0 o 2 c 0 90 _ _ (by omega) (by omega) V0.out (by omega) (by omega) hne hP1 hF1 hN1).mono ?_
  rintro e w2 ⟨rfl, hF2, hP2, ho2⟩
  rw [show rdV 0 0 90 = 186 from rfl]
  rw [show rdT 0 0 0 = 1 from rfl] at hF2
  have hN2 := hN1.only ho2 (fun j hj e => by omega)
  go_wp2_with fail
  refine (ptWrite_calls g gf 0 0 1 _ (by omega) (by omega) (by omega) hP2).mono ?_
  rintro e w3 ⟨⟨v, rfl⟩, hP3, ho3⟩
  rw [show ptD 0 0 1 = 1 from rfl, show 1 % 4 = 1 from rfl] at hP3
  have hF3 := hF2.only ho3 hne.symm
  have hN3 := hN2.only ho3 (fun j hj e => by omega)
  (go_wp2_with fail; refine Cl.p (ptPad_calls g gf 1 1 _ hP3) ?_)
  go_wp2_with fail
  refine (ptRead_calls g gf 1 1 o 2 c 1 90 _ _ (by omega) (by omega) V1.out (by omega) (by omega) hne hP3 hF3 hN3).mono ?_
  rintro e w4 ⟨rfl, hF4, hP4, ho4⟩
  rw [show rdV 1 1 90 = 181 from rfl]
  rw [show rdT 1 1 1 = 2 from rfl] at hF4
  have hN4 := hN3.only ho4 (fun j hj e => by omega)
  go_wp2_with fail
  refine (ptWrite_calls g gf 1 1 2 _ (by omega) (by omega) (by omega) hP4).mono ?_
  rintro e w5 ⟨⟨v5, rfl⟩, hP5, ho5⟩
  rw [show ptD 1 1 2 = 0 from rfl, show 2 % 4 = 2 from rfl] at hP5
  have hF5 := hF4.only ho5 hne.symm
  have hN5 := hN4.only ho5 (fun j hj e => by omega)
  go_wp2_with fail
  refine (ptRead_calls g gf 2 0 o 2 c 2 255 _ _ (by omega) (by omega) V2.out (by omega) (by omega) hne hP5 hF5 hN5).mono ?_
  rintro e w6 ⟨rfl, hF6, hP6, ho6⟩
  rw [show rdV 2 0 255 = 176 from rfl]
  rw [show rdT 2 0 2 = 2 from rfl] at hF6
  have hs : w.heap.size ≤ w1.heap.size := Nat.le_trans (by simp) hb1.size
  have hS : Only (fun k => k = gf ∨ k = g) w1 w6 := ((((ho2.mono fun j _ e => Or.inl e).trans (ho3.mono fun j _ e => Or.inr e)).trans (ho4.mono fun j _ e => Or.inl e)).trans (ho5.mono fun j _ e => Or.inr e)).trans (ho6.mono fun j _ e => Or.inl e)
  have hb6 : Below w.heap.size w w6 := (((Below.refl _ _).alloc (Nat.le_refl _) _).trans (hb1.mono (by simp))).trans (hS.below hs (fun k e => by simp at hgf; omega))
  go_wp2_with fail
  refine Cl.v (nilWrite_calls 1 _) ?_
  intro v7
  (go_wp2_with fail; refine Cl.p (ptTaken_calls g gf 2 0 o 2 c 2 _ hP6 hF6) ?_)
  (go_wp2_with fail; refine Cl.p (ptSelect_calls g gf 2 0 _ hP6) ?_)
  (go_wp2_with fail; refine Cl.p (ptPad_calls g gf 2 0 _ hP6) ?_)
  (go_wp2_with fail; refine Cl.p (nilRead_calls _) ?_)
  (go_wp2_with fail; refine Cl.p (nilPad_calls _) ?_)
  (go_wp2_with fail; refine Cl.p (nilClone_calls _) ?_)
  (go_wp2_with fail; refine Cl.p (nilTaken_calls _) ?_)
  (go_wp2_with fail; go_ret; exact ⟨rfl, by (repeat (first | exact Below.refl _ _ | assumption | refine Below.drew ?_ | refine Bl.alloc ?_ _ | refine below_drewN ?_ _ | refine Bl.chain ?_ (by assumption) (Nat.le_refl _)))⟩)

theorem portReads_calls (o sa sb : Option Addr) (n c m cm k ck : Nat) (A : Nat → Nat) (Wa Wb : Nat → Bool) (Ba Bb : Nat → Nat) (w : World) (hn : n ≤ 140737488355328)
    (hL : NumsAt w .u8 o n (fun i => (A i : Int))) (hA : ∀ i, i < n → A i < 256) (hSa : StpB w sa m Wa Ba w.heap.size) (hSb : StpB w sb k Wb Bb w.heap.size) :
    Calls Try.prog 3 #[.slice o n c, .slice sa m cm, .slice sb k ck] w fun e w' => e = .returned (.bool true) ∧ Below w.heap.size w w' := by
  by_cases h1 : 200 < m
  · have i1 : (200 : Int) < (m : Int) := by omega
    go_enter Try.func3, Try.ntmps3
    (go_wp2_with fail; refine Cl.m (live10_calls _) ?_; intro w1 hb1)
    (go_wp2_with fail; go_ret; exact ⟨rfl, by (repeat (first | exact Below.refl _ _ | assumption | refine Below.drew ?_ | refine Bl.alloc ?_ _ | refine below_drewN ?_ _ | refine Bl.chain ?_ (by assumption) (Nat.le_refl _)))⟩)
  · have i1 : (decide ((200 : Int) < (m : Int))) = false := by rw [decide_eq_false_iff_not]; omega
    by_cases h2 : 200 < k
    · have i2 : (200 : Int) < (k : Int) := by omega
      clear h1
      go_enter Try.func3, Try.ntmps3
      (go_wp2_with fail; refine Cl.m (live10_calls _) ?_; intro w1 hb1)
      (go_wp2_with fail; go_ret; exact ⟨rfl, by (repeat (first | exact Below.refl _ _ | assumption | refine Below.drew ?_ | refine Bl.alloc ?_ _ | refine below_drewN ?_ _ | refine Bl.chain ?_ (by assumption) (Nat.le_refl _)))⟩)
    · have i2 : (decide ((200 : Int) < (k : Int))) = false := by rw [decide_eq_false_iff_not]; omega
      go_enter Try.func3, Try.ntmps3
      (go_wp2_with fail; refine Cl.m (live10_calls _) ?_; intro w1 hb1)
      have hF0 : ∀ S : Nat → Prop, Only S w w1 := fun S => Only.of hb1
      go_wp2_with fail
      refine (ptNew_calls o n c (fun i => (A i : Int)) _ hn (hL.below hb1 (Nat.le_refl _))).mono ?_
      rintro e w2 ⟨g, gf, o', c', rfl, hP2, hF2, hN2, hgf, hlt, hb2⟩
      go_wp2_with fail
      refine (qNew_calls o n c _).mono ?_
      rintro e w3 ⟨h, rfl, hQ3, hh, hb3⟩
      have hsz1 := hb1.size
      have hsz2 := hb2.size
      have hsz3 := hb3.size
      have hb13 : Below w.heap.size w w3 := (hb1.trans (hb2.mono hsz1)).trans (hb3.mono (by omega))
      have hP3 := hP2.below hb3 hP2.lt
      have hF3 := hF2.below hb3 hF2.lt
      have hgh : g < h := Nat.lt_of_lt_of_le hP2.lt hh
      have hN3 := hN2.only (S := fun _ => False) (Only.of hb3) (fun _ _ e => e)
      have hL3 : NumsB w3 .u8 o n (fun i => (A i : Int)) gf := fun i hi => by
        obtain ⟨b, off, h1', h2', h3'⟩ := (hL.toB (Nat.le_refl _)).only (S := fun _ => False) (Only.of hb13) (fun _ _ e => e) i hi
        exact ⟨b, off, h1', by omega, h3'⟩
      have lift : ∀ (sx : Option Addr) (mx : Nat) (Wx : Nat → Bool) (Bx : Nat → Nat) (B : Nat), w.heap.size ≤ B → StpB w sx mx Wx Bx w.heap.size → ∀ w', Only (fun j => w.heap.size ≤ j) w w' → StpB w' sx mx Wx Bx B := fun sx mx Wx Bx B hB hS w' ho i hi => by
        obtain ⟨b, off, h1', h2', h3', h4', h5'⟩ := hS.only ho (fun j hj e => by omega) i hi
        exact ⟨b, off, h1', by omega, h3', h4', h5'⟩
      have hSa3 := lift sa m Wa Ba gf (by omega) hSa w3 (Only.of hb13)
      go_wp2_with fail
      refine (play10_calls g gf h o' o sa n c' c m cm 0 0 0 A Wa Ba _ hlt hgh (by omega) (by omega) hn (by omega) (by omega) hP3 hF3 hQ3 hN3 hL3 hA hSa3).mono ?_
      rintro e w4 ⟨rfl, s, d, T, hs, hd, hT, hP4, hF4, hQ4, ho4⟩
      have hb14 : Below w.heap.size w w4 := hb13.trans (ho4.below (by omega) (fun j e => by omega))
      have hN4 : NumsB w4 .u8 o' n (fun i => (A i : Int)) gf := hN3.only ho4 (fun j hj e => by omega)
      go_wp2_with fail
      refine (ptClone_calls g gf s d o' n c' T _ _ hn hP4 hF4 hN4).mono ?_
      rintro e w5 ⟨g2, gf2, o2, c2, rfl, hP5, hF5, hN5, hgf2, hlt2, hb5⟩
      go_wp2_with fail
      refine (qCopy_calls h o n c T s d _ (hQ4.below hb5 hQ4.lt)).mono ?_
      rintro e w6 ⟨h2', rfl, hQ6, hh6, hb6⟩
      have hsz4 := hb14.size
      have hsz5 := hb5.size
      have hsz6 := hb6.size
      have hb16 : Below w.heap.size w w6 := (hb14.trans (hb5.mono hsz4)).trans (hb6.mono (by omega))
      have hP6 := (hP5.below hb6 hP5.lt).drew
      have hF6 := (hF5.below hb6 hF5.lt).drew
      have hgh6 : g2 < h2' := Nat.lt_of_lt_of_le hP5.lt hh6
      have hQ6d := hQ6.drew
      have hN6 : NumsB w6.drew .u8 o2 n (fun i => (A i : Int)) gf2 := hN5.only (S := fun _ => False) ((Only.of hb6).drew) (fun _ _ e => e)
      have hL6 : NumsB w6.drew .u8 o n (fun i => (A i : Int)) gf2 := fun i hi => by
        obtain ⟨b, off, h1', h2'', h3'⟩ := (hL.toB (Nat.le_refl _)).only (S := fun _ => False) ((Only.of hb16).drew) (fun _ _ e => e) i hi
        exact ⟨b, off, h1', by omega, h3'⟩
      have hSb6 : StpB w6.drew sb k Wb Bb gf2 := lift sb k Wb Bb gf2 (by omega) hSb w6.drew ((Only.of hb16).drew)
      have pP6 : PB w6.drew g gf s d := ((Blk.below hP4 hb5 hP4.lt).below hb6 (Blk.below hP4 hb5 hP4.lt).lt).drew
      have pF6 : FB w6.drew gf o' n c' T := ((Blk.below hF4 hb5 hF4.lt).below hb6 (Blk.below hF4 hb5 hF4.lt).lt).drew
      have pQ6 : QB w6.drew h o n c T s d := ((Blk.below hQ4 hb5 hQ4.lt).below hb6 (Blk.below hQ4 hb5 hQ4.lt).lt).drew
      have l1 : g < w4.heap.size := hP4.lt
      have l2 : gf < w4.heap.size := hF4.lt
      have l3 : h < w4.heap.size := hQ4.lt
      have q1 : w6.drew.cell? ⟨h, 1, none⟩ = some (.int .i64 (T : Int)) := pQ6.cell 1
      have q3 : w6.drew.cell? ⟨h, 3, none⟩ = some (.int .i64 (d : Int)) := pQ6.cell 3
      have e1 : ((d : Int) == (d : Int)) = true := beq_self_eq_true _
      have e2 : ((T : Int) == (T : Int)) = true := beq_self_eq_true _
      go_wp2_with fail
      go_region_held3 (fun w' => w'.cell? ⟨h, 1, none⟩ = some (.int .i64 (T : Int)) ∧ w'.cell? ⟨h, 3, none⟩ = some (.int .i64 (d : Int))) (first | exact ⟨r1, r3⟩ | exact ⟨q1, q3⟩)
        (first
        | (go_at_call 8; refine (play10_calls g2 gf2 h2' o2 o sb n c2 c k ck s d T A Wb Bb w6.drew hlt2 hgh6 (by omega) (by omega) hn hs hd hP6 hF6 hQ6d hN6 hL6 hA hSb6).mono ?_; rintro e w7 ⟨rfl, s7, d7, T7, hs7, hd7, hT7, hP7, hF7, hQ7, ho7⟩; have pP7 := pP6.only ho7 (by omega); have pF7 := pF6.only ho7 (by omega); have pQ7 := pQ6.only ho7 (by omega); have r1 : w7.cell? ⟨h, 1, none⟩ = some (.int .i64 (T : Int)) := pQ7.cell 1; have r3 : w7.cell? ⟨h, 3, none⟩ = some (.int .i64 (d : Int)) := pQ7.cell 3)
        | (go_at_call 11; refine Cl.p (ptPad_calls g gf s d w7 pP7) ?_)
        | (go_at_call 12; refine Cl.p (ptTaken_calls g gf s d o' n c' T w7 pP7 pF7) ?_))
      all_goals
        go_wp2_with fail
        go_ret
        exact ⟨rfl, (Below.drew hb16).trans (ho7.below (by show w.heap.size ≤ w6.heap.size; omega) (fun j e => by omega))⟩

theorem portClears_calls (sa : Option Addr) (m cm r : Nat) (Wa : Nat → Bool) (Ba : Nat → Nat) (w : World) (hr : r < 256) (hSa : StpB w sa m Wa Ba w.heap.size) :
    Calls Try.prog 4 #[.slice sa m cm, .int .u8 (r : Int)] w fun e w' => e = .returned (.bool true) ∧ Below w.heap.size w w' := by
  by_cases h1 : 200 < m
  · have i1 : (200 : Int) < (m : Int) := by omega
    go_enter Try.func4, Try.ntmps4
    (go_wp2_with fail; refine Cl.m (live10_calls _) ?_; intro w1 hb1)
    (go_wp2_with fail; go_ret; exact ⟨rfl, by (repeat (first | exact Below.refl _ _ | assumption | refine Below.drew ?_ | refine Bl.alloc ?_ _ | refine below_drewN ?_ _ | refine Bl.chain ?_ (by assumption) (Nat.le_refl _)))⟩)
  · have i1 : (decide ((200 : Int) < (m : Int))) = false := by rw [decide_eq_false_iff_not]; omega
    go_enter Try.func4, Try.ntmps4
    (go_wp2_with fail; refine Cl.m (live10_calls _) ?_; intro w1 hb1)
    have hsz1 := hb1.size
    go_wp2_with fail
    refine (ptNew_calls none 0 0 (fun _ => 0) _ (by omega) (fun i hi => by omega)).mono ?_
    rintro e w2 ⟨g, gf, o', c', rfl, hP2, hF2, hN2, hgf, hlt, hb2⟩
    have hsz2 := hb2.size
    have hne : g ≠ gf := by omega
    have hb12 : Below w.heap.size w w2 := hb1.trans (hb2.mono hsz1)
    go_wp2_with fail
    go_loopw [6] (fun i wr => ∃ k s d : Nat, k ≤ m ∧ s < 4 ∧ d ≤ 5 ∧ i = .int .i64 (k : Int) ∧ PB wr g gf s d ∧ Only (fun j => j = g) w2 wr) (fun i _ => m - (intOf i).toNat)
    case atStart => exact ⟨0, 0, 0, by omega, by omega, by omega, rfl, hP2, Only.refl _ _⟩
    case round =>
      obtain ⟨k, s, d, hk, hs, hd, rfl, hPr, hor⟩ := hrel
      by_cases hlt' : k < m
      · have hlti : (k : Int) < (m : Int) := by omega
        obtain ⟨b, off, rfl, hbl, _, hc1, hb256⟩ := (hSa.only (S := fun j => w.heap.size ≤ j) ((Only.of hb12).trans (hor.mono fun j _ e => by omega)) (fun j hj e => by omega)) k hlt'
        go_wp2_with fail
        refine (ptWrite_calls g gf s d (Ba k) _ hb256 hs hd hPr).mono ?_
        rintro e w3 ⟨⟨v, rfl⟩, hP3, ho3⟩
        go_wp2_with fail
        go_roundw
        case rel => exact ⟨k + 1, Ba k % 4, ptD s d (Ba k), by omega, Nat.mod_lt _ (by omega), ptD_le s d (Ba k) hd, by go_num, hP3, hor.trans ho3⟩
        case measure => simp [intOf]; omega
      · obtain rfl : k = m := by omega
        have hF3 := hF2.only hor hne.symm
        have hN3 := hN2.only hor (fun j hj e => by omega)
        have p2 : ptD s d 2 = 0 := if_pos (by omega)
        have P2 := hide p2
        clear p2
        go_wp2_with fail
        refine (ptWrite_calls g gf s d 2 _ (by omega) hs hd hPr).mono ?_
        rintro e w4 ⟨⟨v, rfl⟩, hP4, ho4⟩
        rw [P2.out, show 2 % 4 = 2 from rfl] at hP4
        have hF4 := hF3.only ho4 hne.symm
        have hN4 := hN3.only ho4 (fun j hj e => by omega)
        (go_wp2_with fail; refine Cl.p (ptPad_calls g gf 2 0 _ hP4) ?_)
        go_wp2_with fail
        refine (ptRead_calls g gf 2 0 o' 0 c' 0 255 (fun _ => 0) _ (by omega) (by omega) rfl (by omega) (by omega) hne hP4 hF4 hN4).mono ?_
        rintro e w5 ⟨rfl, hF5, hP5, ho5⟩
        rw [show rdV 2 0 255 = 176 from rfl]
        have hor5 : Only (fun j => w.heap.size ≤ j) w w5 := (((Only.of hb12).trans (hor.mono fun j _ e => by omega)).trans (ho4.mono fun j _ e => by omega)).trans (ho5.mono fun j _ e => by omega)
        go_wp2_with fail
        go_loopw [7] (fun i wr => ∃ k s : Nat, k ≤ r ∧ (s = 1 ∨ s = 2) ∧ i = .int .i64 (k : Int) ∧ PB wr g gf s (if k < 5 then k else 5) ∧ Only (fun j => w.heap.size ≤ j) w wr) (fun i _ => r - (intOf i).toNat)
        case atStart => exact ⟨0, 2, by omega, Or.inr rfl, rfl, hP5, hor5⟩
        case round =>
          obtain ⟨k, s, hk, hs, rfl, hPr, hor6⟩ := hrel
          obtain ⟨d, hd⟩ : ∃ d, (if k < 5 then k else 5) = d := ⟨_, rfl⟩
          rw [hd] at hPr
          have hd5 : d ≤ 5 := by rw [← hd]; split <;> omega
          by_cases hlt' : k < r
          · have hlti : (k : Int) < (r : Int) := by omega
            have d1 : ptD s d 0 = d := by unfold ptD; rw [if_neg (by omega), if_neg (by omega)]
            have d2 : ptD 0 d 1 = (if k + 1 < 5 then k + 1 else 5) := by unfold ptD; rw [if_neg (by omega), if_pos (by omega), ← hd]; repeat (first | omega | split)
            have d3 : ∀ d, ptD 1 d 1 = d := fun d => by unfold ptD; rw [if_neg (by omega), if_neg (by omega)]
            have D1 := hide d1
            have D2 := hide d2
            have D3 := hide d3
            have hs4 : s < 4 := by omega
            clear d1 d2 d3 hd hs
            go_wp2_with fail
            refine (ptWrite_calls g gf s d 0 _ (by omega) hs4 hd5 hPr).mono ?_
            rintro e w7 ⟨⟨v7, rfl⟩, hP7, ho7⟩
            rw [D1.out, show 0 % 4 = 0 from rfl] at hP7
            go_wp2_with fail
            refine (ptWrite_calls g gf 0 d 1 _ (by omega) (by omega) hd5 hP7).mono ?_
            rintro e w8 ⟨⟨v8, rfl⟩, hP8, ho8⟩
            rw [D2.out, show 1 % 4 = 1 from rfl] at hP8
            go_wp2_with fail
            refine (ptWrite_calls g gf 1 _ 1 _ (by omega) (by omega) (by split <;> omega) hP8).mono ?_
            rintro e w9 ⟨⟨v9, rfl⟩, hP9, ho9⟩
            rw [D3.out, show 1 % 4 = 1 from rfl] at hP9
            go_wp2_with fail
            go_roundw
            case rel => exact ⟨k + 1, 1, by omega, Or.inl rfl, by go_num, hP9, ((hor6.trans (ho7.mono fun j _ e => by omega)).trans (ho8.mono fun j _ e => by omega)).trans (ho9.mono fun j _ e => by omega)⟩
            case measure => simp [intOf]; omega
          · obtain rfl : k = r := by omega
            have hmin : min (k : Int) 5 = (d : Int) := by rw [← hd]; split <;> omega
            have hbe : ((d : Int) == (d : Int)) = true := beq_self_eq_true _
            clear hd
            (go_wp2_with fail; refine Cl.p (ptPad_calls g gf s d _ hPr) ?_)
            go_wp2_with fail
            all_goals
              go_ret
              exact ⟨by first | rfl | (apply congrArg (fun b => Ending.returned (.bool b)); rw [beq_iff_eq]; omega), hor6.below (Nat.le_refl _) (fun j e => e)⟩
end Go.Proofs.Ytndochgmhnpdfaa
