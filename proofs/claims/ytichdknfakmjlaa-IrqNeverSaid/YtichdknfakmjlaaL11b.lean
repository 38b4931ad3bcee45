/-
  gannetlaw11.play.
-/
import Derived.Test.YtichdknfakmjlaaL11
import Derived.Test.YtichdknfakmjlaaRbits
import Derived.Deep.RegionHeld3
namespace Go.Proofs.Ytichdknfakmjlaa
open Go.RowKit Pl

/-- A slice of steps, below B. -/
def StpB (w : World) (a : Option Addr) (len : Nat) (Rg : Nat → Nat) (Bv : Nat → Nat) (B : Nat) : Prop :=
  ∀ i, i < len → ∃ b off, a = some ⟨b, off, none⟩ ∧ b < B ∧ w.cell? ⟨b, off + i * 2, none⟩ = some (.int .u8 (Rg i : Int)) ∧ w.cell? ⟨b, off + i * 2 + 1, none⟩ = some (.int .u8 (Bv i : Int)) ∧ Rg i < 256 ∧ Bv i < 256
theorem StpB.only {S : Nat → Prop} {w w' : World} {a : Option Addr} {len : Nat} {Rg : Nat → Nat} {Bv : Nat → Nat} {B : Nat} (h : StpB w a len Rg Bv B) (ho : Only S w w') (hs : ∀ j, j < B → ¬ S j) : StpB w' a len Rg Bv B := fun i hi => by
  obtain ⟨b, off, ha, hlt, hc, hc2, hb⟩ := h i hi
  exact ⟨b, off, ha, hlt, (World.cell?_of_block (ho.block b (cell_lt hc) (hs b hlt))).trans hc, (World.cell?_of_block (ho.block b (cell_lt hc) (hs b hlt))).trans hc2, hb⟩
/-- The state in a round of the inner loop. -/
def P14 (w0 : World) (g h d : Nat) (u : Bool) (G9 G10 : Nat) (b0 b1 b2 b3 b4 b5 b6 b7 : Bool) (W : World) : Prop :=
  Blk W G9 50 #[.bool b0, .bool b1, .bool b2, .bool b3, .bool b4, .bool b5, .bool b6, .bool b7] ∧ Blk W G10 32 #[.bool b0, .bool b1, .bool b2, .bool b3] ∧ IB W g d u ∧ RI W h d u ∧ Below w0.heap.size w0 W
section
variable {w0 W W' : World} {g h d G9 G10 : Nat} {u b0 b1 b2 b3 b4 b5 b6 b7 : Bool}
theorem P14.below (p : P14 w0 g h d u G9 G10 b0 b1 b2 b3 b4 b5 b6 b7 W) (hb : Below W.heap.size W W') : P14 w0 g h d u G9 G10 b0 b1 b2 b3 b4 b5 b6 b7 W' :=
  ⟨p.1.below hb p.1.lt, p.2.1.below hb p.2.1.lt, Blk.below p.2.2.1 hb p.2.2.1.lt, Blk.below p.2.2.2.1 hb p.2.2.2.1.lt, p.2.2.2.2.trans (hb.mono p.2.2.2.2.size)⟩
theorem P14.cells (p : P14 w0 g h d u G9 G10 b0 b1 b2 b3 b4 b5 b6 b7 W) :
    (W.cell? ⟨G9, 2, none⟩ = some (.bool b2) ∧ W.cell? ⟨G9, 3, none⟩ = some (.bool b3) ∧ W.cell? ⟨G9, 4, none⟩ = some (.bool b4) ∧ W.cell? ⟨G10, 0, none⟩ = some (.bool b0) ∧ W.cell? ⟨G10, 1, none⟩ = some (.bool b1) ∧ W.cell? ⟨G10, 2, none⟩ = some (.bool b2) ∧ W.cell? ⟨G10, 3, none⟩ = some (.bool b3)) ∧ P14 w0 g h d u G9 G10 b0 b1 b2 b3 b4 b5 b6 b7 W :=
  ⟨⟨p.1.cell 2, p.1.cell 3, p.1.cell 4, p.2.1.cell 0, p.2.1.cell 1, p.2.1.cell 2, p.2.1.cell 3⟩, p⟩
theorem ch14 (hd : d < 8) (C : Nat) (hC : chL (chF b0 b1 u b2 b3 b4 d) (kL 5) = C) (p : P14 w0 g h d u G9 G10 b0 b1 b2 b3 b4 b5 b6 b7 W) : Calls Try.prog 12 #[.pointer (some ⟨g, 0, none⟩), .agg #[.bool b0, .bool b1, .bool b2, .bool b3], .bool b4] W fun e w' => e = .returned (.int .u8 (C : Int)) ∧ P14 w0 g h d u G9 G10 b0 b1 b2 b3 b4 b5 b6 b7 w' :=
  (iqChoose_calls (some ⟨g, 0, none⟩) d u b0 b1 b2 b3 b4 W (by omega) (.inr ⟨g, rfl, p.2.2.1⟩)).mono fun e w' he => ⟨by rw [he.1, hC], p.below he.2⟩
theorem rch14 (hd : d < 8) (C : Nat) (hC : chL (chF b0 b1 u b2 b3 b4 d) (kL 5) = C) (p : P14 w0 g h d u G9 G10 b0 b1 b2 b3 b4 b5 b6 b7 W) : Calls Try.prog 22 #[.pointer (some ⟨h, 0, none⟩), .agg #[.bool b0, .bool b1, .bool b2, .bool b3], .bool b4] W fun e w' => e = .returned (.int .u8 (C : Int)) ∧ P14 w0 g h d u G9 G10 b0 b1 b2 b3 b4 b5 b6 b7 w' :=
  (rfChoose_calls h d u b0 b1 b2 b3 b4 _ _ _ W rfl rfl rfl hd p.2.2.2.1).mono fun e w' he => ⟨by rw [he.1, choose_same _ _ _ _ _ _ d hd, hC], p.below he.2⟩
theorem st14 (C : Nat) (hC : stB u b2 b3 = C) (p : P14 w0 g h d u G9 G10 b0 b1 b2 b3 b4 b5 b6 b7 W) : Calls Try.prog 15 #[.pointer (some ⟨g, 0, none⟩), .bool b2, .bool b3] W fun e w' => e = .returned (.int .u8 (C : Int)) ∧ P14 w0 g h d u G9 G10 b0 b1 b2 b3 b4 b5 b6 b7 w' :=
  (iqStatus_calls (some ⟨g, 0, none⟩) d u b2 b3 W (.inr ⟨g, rfl, p.2.2.1⟩)).mono fun e w' he => ⟨by rw [he.1, hC], p.below he.2⟩
theorem rst14 (C : Nat) (hC : stB u b2 b3 = C) (p : P14 w0 g h d u G9 G10 b0 b1 b2 b3 b4 b5 b6 b7 W) : Calls Try.prog 23 #[.pointer (some ⟨h, 0, none⟩), .bool b2, .bool b3] W fun e w' => e = .returned (.int .u8 (C : Int)) ∧ P14 w0 g h d u G9 G10 b0 b1 b2 b3 b4 b5 b6 b7 w' :=
  (rfStatus_calls h d u b2 b3 W p.2.2.2.1).mono fun e w' he => ⟨by rw [he.1, hC], p.below he.2⟩
end
theorem wr_small (x : Nat) (h : x < 256) : wrap64 (x : Int) = (x : Int) ∧ IntKind.i64.wrap (x : Int) = (x : Int) := by
  constructor
  · unfold wrap64; omega
  · rw [IntKind.wrap_i64]; omega
theorem wrD_lt (reg : Int) (b d : Nat) (h : d < 8) : wrD reg b d < 8 := by
  unfold wrD
  split
  · omega
  · exact h
set_option maxRecDepth 100000 in
set_option maxHeartbeats 2000000 in
theorem play11_calls (g h : Nat) (sa : Option Addr) (m cq d0 : Nat) (u0 : Bool) (Rg Bv : Nat → Nat) (B : Nat) (w : World) (hgh : g ≠ h) (hBg : B ≤ g) (hBh : B ≤ h) (hd0 : d0 < 8) (hm : m ≤ 60)
    (hI : IB w g d0 u0) (hR : RI w h d0 u0) (hS : StpB w sa m Rg Bv B) :
    Calls Try.prog 8 #[.pointer (some ⟨g, 0, none⟩), .pointer (some ⟨h, 0, none⟩), .slice sa m cq] w
      fun e w' => e = .returned (.bool true) ∧ ∃ d u, d < 8 ∧ IB w' g d u ∧ RI w' h d u ∧ Only (fun k => k = g ∨ k = h) w w' := by
  go_enter Try.func8, Try.ntmps8
  go_wp2_with fail
  go_loopw [7] (fun i wr => ∃ k d : Nat, ∃ u : Bool, k ≤ m ∧ d < 8 ∧ i = .int .i64 (k : Int) ∧ IB wr g d u ∧ RI wr h d u ∧ Only (fun k => k = g ∨ k = h) w wr) (fun i _ => m - (intOf i).toNat)
  case atStart => exact ⟨0, d0, u0, by omega, hd0, rfl, hI, hR, Only.refl _ _⟩
  case round =>
    obtain ⟨k, d, u, hk, hd, rfl, hIr, hRr, hor⟩ := hrel
    by_cases hlt : k < m
    · have hlt' : (k : Int) < (m : Int) := by omega
      obtain ⟨b, off, rfl, hbf, hc0, hc1, hr256, hb256⟩ := (hS.only hor (fun j hj e => by omega)) k hlt
      have hbl := cell_lt hc0
      by_cases h3 : 3 < Rg k
      case' pos =>
        have i3 : (3 : Int) < (Rg k : Int) := by omega
        go_wp2_with fail
        refine (iqOver_calls g d u _ hIr).mono ?_
        rintro e w1 ⟨⟨v, rfl⟩, hI1, ho1⟩
        have hR1 : RI w1 h d u := Blk.only hRr ho1 (by omega)
        have y1 : w1.cell? ⟨h, 1, none⟩ = some (.bool u) := Blk.cell hR1 1
        have y2 : w1.frozen? ⟨h, 1, none⟩ = false := Blk.frozen hR1 1
        have hI2 : IB (w1.setCell ⟨h, 1, none⟩ (.bool true)) g d true := Blk.far hI1 (by show g ≠ h; exact hgh) _
        have hR2 : RI (w1.setCell ⟨h, 1, none⟩ (.bool true)) h d true := Blk.set_ hR1 1 _
        have ho2 : Only (fun k => k = g ∨ k = h) w (w1.setCell ⟨h, 1, none⟩ (.bool true)) := (hor.trans (ho1.mono fun j _ e => Or.inl e)).setCell ⟨h, 1, none⟩ (Or.inr rfl) _
        go_wp2_with fail
        generalize w1.setCell ⟨h, 1, none⟩ (.bool true) = w2 at *
        obtain ⟨d2, ed⟩ : ∃ d2, d2 = d := ⟨_, rfl⟩
        have hd2 : d2 < 8 := by omega
        rw [← ed] at hI2 hR2
        obtain ⟨u2, eu⟩ : ∃ u2, u2 = true := ⟨_, rfl⟩
        rw [← eu] at hI2 hR2
        clear y1 y2 hI1 hR1 ho1 hIr hRr hc0 hc1 hor eu ed i3
      case' neg =>
        have i3 : (decide ((3 : Int) < (Rg k : Int))) = false := by rw [decide_eq_false_iff_not]; omega
        have i4 : (Rg k : Int) ≤ 3 := by omega
        obtain ⟨j1, j2⟩ := wr_small (Rg k) hr256
        have d0 : wr.drew.cell? ⟨b, off + k * 2, none⟩ = some (.int .u8 (Rg k : Int)) := hc0
        have d1 : wr.drew.cell? ⟨b, off + k * 2 + 1, none⟩ = some (.int .u8 (Bv k : Int)) := hc1
        have hwd := wrD_lt (Rg k : Int) (Bv k) d hd
        have hI' : IB wr.drew g d u := hIr
        go_wp2_with fail
        go_region_held3 (fun w' => w'.cell? ⟨b, off + k * 2, none⟩ = some (.int .u8 (Rg k : Int)) ∧ w'.cell? ⟨b, off + k * 2 + 1, none⟩ = some (.int .u8 (Bv k : Int))) (first | exact ⟨d0, d1⟩ | exact ⟨e0, e1⟩) (first | (go_at_call 19; refine (iqWrite_calls g d (Bv k) u (Rg k) _ hb256 hI').mono ?_; rintro e w1 ⟨⟨v, rfl⟩, hI1, ho1⟩; have e0 := (World.cell?_of_block (ho1.block b hbl (by omega))).trans d0; have e1 := (World.cell?_of_block (ho1.block b hbl (by omega))).trans d1))
        have hR1 : RI w1.drew h d u := (Blk.only (S := fun j => j = g) (w := wr.drew) (w' := w1) hRr ho1 (fun e => hgh e.symm)).drew
        have e0 : w1.drew.cell? ⟨b, off + k * 2, none⟩ = some (.int .u8 (Rg k : Int)) := (World.cell?_of_block (ho1.block b hbl (by omega))).trans d0
        have e1 : w1.drew.cell? ⟨b, off + k * 2 + 1, none⟩ = some (.int .u8 (Bv k : Int)) := (World.cell?_of_block (ho1.block b hbl (by omega))).trans d1
        have hbl1 : b < w1.drew.heap.size := cell_lt e0
        go_wp2_with fail
        go_region_held3 (fun w' => w'.cell? ⟨b, off + k * 2, none⟩ = some (.int .u8 (Rg k : Int)) ∧ w'.cell? ⟨b, off + k * 2 + 1, none⟩ = some (.int .u8 (Bv k : Int))) (first | exact ⟨e0, e1⟩ | exact ⟨f0, f1⟩) (first | (go_at_call 20; refine (rfWrite_calls h d (Bv k) u (Rg k) _ hb256 hR1).mono ?_; rintro e w2 ⟨⟨v2, rfl⟩, hR2, ho2'⟩; have f0 := (World.cell?_of_block (ho2'.block b hbl1 (by omega))).trans e0; have f1 := (World.cell?_of_block (ho2'.block b hbl1 (by omega))).trans e1))
        have hI2 : IB w2 g (wrD (Rg k) (Bv k) d) (wrU (Rg k) u) := Blk.only (S := fun j => j = h) (w := w1.drew) hI1 ho2' (fun e => hgh e)
        have ho2 : Only (fun k => k = g ∨ k = h) w w2 := ((hor.trans ((Only.drew (Only.refl (fun _ => False) wr)).mono fun j _ e => e.elim)).trans (ho1.mono fun j _ e => Or.inl e)).trans (((Only.drew (Only.refl (fun _ => False) w1)).mono fun j _ e => e.elim).trans (ho2'.mono fun j _ e => Or.inr e))
        generalize wrU (Rg k) u = u2 at *
        obtain ⟨d2, ed⟩ : ∃ d2, d2 = wrD (Rg k) (Bv k) d := ⟨_, rfl⟩
        rw [← ed] at hI2 hR2 hwd
        have hd2 := hwd
        clear ed hwd hI1 hR1 ho1 ho2' hI' e0 e1 d0 d1 hIr hRr hor hc0 hc1 j1 j2 i3 i4
        go_wp2_with fail
        skip
      all_goals
        have hg2 := hI2.lt
        have hh2 := hR2.lt
        go_loopw [8] (fun i wr => ∃ j : Nat, j ≤ 32 ∧ i = .int .i64 (j : Int) ∧ Below w2.heap.size w2 wr) (fun i _ => 32 - (intOf i).toNat)
        case atStart => exact ⟨0, by omega, rfl, (by first | exact Below.refl _ _ | exact below_drewN (Below.refl _ _) _)⟩
        case round =>
          obtain ⟨j, hj, rfl, hbq⟩ := hrel
          have hI3 : IB wr g d2 u2 := Blk.below hI2 hbq hg2
          have hR3 : RI wr h d2 u2 := Blk.below hR2 hbq hh2
          by_cases hjl : j < 32
          · have hjl' : (j : Int) < 32 := by omega
            go_wp2_with fail
            have hbt := refBits_calls j wr (by omega)
            unfold bools at hbt
            generalize bitsOf j 0 = b0 at hbt
            generalize bitsOf j 1 = b1 at hbt
            generalize bitsOf j 2 = b2 at hbt
            generalize bitsOf j 3 = b3 at hbt
            generalize bitsOf j 4 = b4 at hbt
            generalize bitsOf j 5 = b5 at hbt
            generalize bitsOf j 6 = b6 at hbt
            generalize bitsOf j 7 = b7 at hbt
            refine Cl.m hbt ?_
            intro w3 hb3
            have hI4 : IB w3 g d2 u2 := Blk.below hI3 hb3 hI3.lt
            have hR4 : RI w3 h d2 u2 := Blk.below hR3 hb3 hR3.lt
            have hb23 : Below w2.heap.size w2 w3 := hbq.trans (hb3.mono hbq.size)
            have hP : P14 w2 g h d2 u2 w3.heap.size (w3.heap.size + 1) b0 b1 b2 b3 b4 b5 b6 b7 ((w3.alloc (.cells #[.bool b0, .bool b1, .bool b2, .bool b3, .bool b4, .bool b5, .bool b6, .bool b7] 50)).alloc (.cells #[.bool b0, .bool b1, .bool b2, .bool b3] 32)) := ⟨(Blk.new _ _ _).alloc _, Blk.newAt (by simp), (Blk.alloc hI4 _).alloc _, (Blk.alloc hR4 _).alloc _, Bl.alloc (Bl.alloc hb23 _) _⟩
            clear hbt hI4 hR4 hb23 hI3 hR3 hb3
            go_wp2_with fail
            have hPd : P14 w2 g h d2 u2 w3.heap.size (w3.heap.size + 1) b0 b1 b2 b3 b4 b5 b6 b7 ((w3.alloc (.cells #[.bool b0, .bool b1, .bool b2, .bool b3, .bool b4, .bool b5, .bool b6, .bool b7] 50)).alloc (.cells #[.bool b0, .bool b1, .bool b2, .bool b3] 32)).drew := hP.below (Below.drew (Below.refl _ _))
            generalize ((w3.alloc (.cells #[.bool b0, .bool b1, .bool b2, .bool b3, .bool b4, .bool b5, .bool b6, .bool b7] 50)).alloc (.cells #[.bool b0, .bool b1, .bool b2, .bool b3] 32)) = w5 at *
            obtain ⟨C, hC⟩ : ∃ C, chL (chF b0 b1 u2 b2 b3 b4 d2) (kL 5) = C := ⟨_, rfl⟩
            obtain ⟨D, hD⟩ : ∃ D, stB u2 b2 b3 = D := ⟨_, rfl⟩
            have n1 : ((C : Int) != (C : Int)) = false := bne_self_eq_false _
            have n2 : ((D : Int) != (D : Int)) = false := bne_self_eq_false _
            go_region_held3 (fun W => (W.cell? ⟨w3.heap.size, 2, none⟩ = some (.bool b2) ∧ W.cell? ⟨w3.heap.size, 3, none⟩ = some (.bool b3) ∧ W.cell? ⟨w3.heap.size, 4, none⟩ = some (.bool b4) ∧ W.cell? ⟨w3.heap.size + 1, 0, none⟩ = some (.bool b0) ∧ W.cell? ⟨w3.heap.size + 1, 1, none⟩ = some (.bool b1) ∧ W.cell? ⟨w3.heap.size + 1, 2, none⟩ = some (.bool b2) ∧ W.cell? ⟨w3.heap.size + 1, 3, none⟩ = some (.bool b3)) ∧ P14 w2 g h d2 u2 w3.heap.size (w3.heap.size + 1) b0 b1 b2 b3 b4 b5 b6 b7 W) (first | exact P14.cells (by assumption)) (first
              | (go_at_call 12; refine (ch14 hd2 C hC (by first | assumption | exact And.right (by assumption))).mono ?_; rintro e wc ⟨rfl, hPc⟩)
              | (go_at_call 22; refine (rch14 hd2 C hC (by first | assumption | exact And.right (by assumption))).mono ?_; rintro e wd ⟨rfl, hPd2⟩)
              | (go_at_call 15; refine (st14 D hD (by first | assumption | exact And.right (by assumption))).mono ?_; rintro e we ⟨rfl, hPe⟩)
              | (go_at_call 23; refine (rst14 D hD (by first | assumption | exact And.right (by assumption))).mono ?_; rintro e wf ⟨rfl, hPf⟩))
            go_wp2_with fail
            go_roundw
            case rel => exact ⟨j + 1, by omega, by go_num, hPf.2.2.2.2⟩
            case measure => simp [intOf]; omega
          · obtain rfl : j = 32 := by omega
            have c0 : wr.cell? ⟨h, 0, none⟩ = some (.int .u8 (d2 : Int)) := Blk.cell hR3 0
            have c1 : wr.cell? ⟨h, 1, none⟩ = some (.bool u2) := Blk.cell hR3 1
            have n1 : ((d2 : Int) != (d2 : Int)) = false := bne_self_eq_false _
            have n2 : (u2 != u2) = false := bne_self_eq_false _
            have hp : ∀ q, IB (wr.drewN q) g d2 u2 := fun q => Blk.below hI3 (below_drewN (Below.refl wr.heap.size wr) q) hI3.lt
            have hpr : ∀ q, RI (wr.drewN q) h d2 u2 := fun q => Blk.below hR3 (below_drewN (Below.refl wr.heap.size wr) q) hR3.lt
            have Hp := hide hp
            clear hp
            go_wp2_with fail
            go_quiet ((first
              | (go_at_call 10; first | exact quiet_left (iqDisable_calls g d2 u2 _ (Hp.out _)) | exact quiet_add_left (iqDisable_calls g d2 u2 _ (Hp.out _)))
              | (go_at_call 11; first | exact quiet_left (iqDue_calls g d2 u2 _ (Hp.out _)) | exact quiet_add_left (iqDue_calls g d2 u2 _ (Hp.out _)))))
            go_wp2_with fail
            go_roundw
            case rel => exact ⟨k + 1, d2, u2, by omega, hd2, by go_num, Hp.out _, hpr _, ho2.trans (Only.of (hbq.trans ((below_drewN (Below.refl wr.heap.size wr) _).mono hbq.size)))⟩
            case measure => simp [intOf]; omega
    · obtain rfl : k = m := by omega
      go_wp2_with fail
      go_ret
      exact ⟨rfl, d, u, hd, hIr, hRr, hor⟩
end Go.Proofs.Ytichdknfakmjlaa
