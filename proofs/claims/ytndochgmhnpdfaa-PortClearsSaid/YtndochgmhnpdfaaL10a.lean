/-
  gannetlaw10: play, live.
-/
import Derived.Test.YtndochgmhnpdfaaPort3
namespace Go.Proofs.Ytndochgmhnpdfaa
open Go.RowKit

/-- Steps, in a block below B. -/
def StpB (w : World) (a : Option Addr) (len : Nat) (Wr : Nat → Bool) (Bv : Nat → Nat) (B : Nat) : Prop :=
  ∀ i, i < len → ∃ b off, a = some ⟨b, off, none⟩ ∧ b < B ∧ w.cell? ⟨b, off + i * 2, none⟩ = some (.bool (Wr i)) ∧ w.cell? ⟨b, off + i * 2 + 1, none⟩ = some (.int .u8 (Bv i : Int)) ∧ Bv i < 256
theorem StpB.only {S : Nat → Prop} {w w' : World} {a : Option Addr} {len : Nat} {Wr : Nat → Bool} {Bv : Nat → Nat} {B : Nat} (h : StpB w a len Wr Bv B) (ho : Only S w w') (hs : ∀ j, j < B → ¬ S j) : StpB w' a len Wr Bv B := fun i hi => by
  obtain ⟨b, off, ha, hlt, hc, hc2, hb⟩ := h i hi
  exact ⟨b, off, ha, hlt, (World.cell?_of_block (ho.block b (cell_lt hc) (hs b hlt))).trans hc, (World.cell?_of_block (ho.block b (cell_lt hc) (hs b hlt))).trans hc2, hb⟩
theorem nxQ (A : Nat → Nat) (n T : Nat) (hA : ∀ i, i < n → A i < 256) : ∃ q : Nat, nxV (fun i => (A i : Int)) n T = (q : Int) ∧ q < 256 := by
  unfold nxV
  by_cases h : T < n
  · exact ⟨A T, if_pos h, hA T h⟩
  · exact ⟨255, if_neg h, by omega⟩
set_option maxHeartbeats 4000000 in
theorem play10_calls (g gf h : Nat) (o o2 sa : Option Addr) (n c c2 m cq s0 d0 T0 : Nat) (A : Nat → Nat) (Wr : Nat → Bool) (Bv : Nat → Nat) (w : World) (hgf : gf < g) (hgh : g < h) (hT : T0 ≤ 1000) (hm : m ≤ 1000) (hn : n ≤ 140737488355328) (hs0 : s0 < 4) (hd0 : d0 ≤ 5)
    (hP : PB w g gf s0 d0) (hF : FB w gf o n c T0) (hQ : QB w h o2 n c2 T0 s0 d0) (hL : NumsB w .u8 o n (fun i => (A i : Int)) gf) (hL2 : NumsB w .u8 o2 n (fun i => (A i : Int)) gf) (hA : ∀ i, i < n → A i < 256) (hS : StpB w sa m Wr Bv gf) :
    Calls Try.prog 8 #[.pointer (some ⟨g, 0, none⟩), .pointer (some ⟨h, 0, none⟩), .slice sa m cq] w
      fun e w' => e = .returned (.bool true) ∧ ∃ s d T, s < 4 ∧ d ≤ 5 ∧ T ≤ T0 + m ∧ PB w' g gf s d ∧ FB w' gf o n c T ∧ QB w' h o2 n c2 T s d ∧ Only (fun k => k = gf ∨ k = g ∨ k = h) w w' := by
  go_enter Try.func8, Try.ntmps8
  go_wp2_with fail
  go_loopw [7] (fun i wr => ∃ k s d T : Nat, k ≤ m ∧ T ≤ T0 + k ∧ s < 4 ∧ d ≤ 5 ∧ i = .int .i64 (k : Int) ∧ PB wr g gf s d ∧ FB wr gf o n c T ∧ QB wr h o2 n c2 T s d ∧ Only (fun k => k = gf ∨ k = g ∨ k = h) w wr) (fun i _ => m - (intOf i).toNat)
  case atStart => exact ⟨0, s0, d0, T0, by omega, by omega, hs0, hd0, rfl, hP, hF, hQ, Only.refl _ _⟩
  case round =>
    obtain ⟨k, s, d, T, hk, hTk, hs, hd, rfl, hPr, hFr, hQr, hor⟩ := hrel
    by_cases hlt : k < m
    · have hlt' : (k : Int) < (m : Int) := by omega
      have hns : ∀ j, j < gf → ¬ (j = gf ∨ j = g ∨ j = h) := fun j hj e => by omega
      have hLr := hL.only hor hns
      have hL2r := hL2.only hor hns
      obtain ⟨b, off, rfl, hbf, hc0, hc1, hb256⟩ := (hS.only hor hns) k hlt
      have hne1 : g ≠ gf := by omega
      have hne2 : h ≠ g := by omega
      have hne3 : h ≠ gf := by omega
      have hbl := cell_lt hc0
      cases hw : Wr k
      · rw [hw] at hc0
        obtain ⟨q, hq, hq2⟩ := nxQ A n T hA
        have hT62 : T < 4611686018427387902 := by omega
        have hvv : (((rdV s d q : Nat) : Int) != ((rdV s d q : Nat) : Int)) = false := bne_self_eq_false _
        have hT2 : rdT s d T ≤ T + 1 := by unfold rdT; split <;> omega
        have Hq := hide hq
        clear hq hw
        go_wp2_with fail
        refine (ptRead_calls g gf s d o n c T q _ _ (by omega) hn Hq.out hq2 hs hne1 hPr hFr hLr).mono ?_
        rintro e w1 ⟨rfl, hF1, hP1, ho1⟩
        have hQ1 := hQr.only ho1 hne3
        have hL21 := hL2r.only ho1 (fun j hj e => by omega)
        go_wp2_with fail
        refine (qRead_calls h o2 n c2 T s d q _ _ (by omega) hn Hq.out hq2 hs hd hQ1 (fun i hi => by obtain ⟨b', off', h1, h2, h3⟩ := hL21 i hi; exact ⟨b', off', h1, by omega, h3⟩)).mono ?_
        rintro e w2 ⟨rfl, hQ2, ho2⟩
        have hP2 := hP1.only ho2 hne2.symm
        have hF2 := hF1.only ho2 hne3.symm
        have hor2 : Only (fun k => k = gf ∨ k = g ∨ k = h) w w2 := (hor.trans (ho1.mono fun j _ e => Or.inl e)).trans (ho2.mono fun j _ e => Or.inr (Or.inr e))
        generalize rdT s d T = T' at *
        generalize rdV s d q = vv at *
        have hcq1 : w2.cell? ⟨h, 1, none⟩ = some (.int .i64 (T' : Int)) := hQ2.cell 1
        have hcq2 : w2.cell? ⟨h, 2, none⟩ = some (.int .u8 (s : Int)) := hQ2.cell 2
        have hcq3 : w2.cell? ⟨h, 3, none⟩ = some (.int .i64 (d : Int)) := hQ2.cell 3
        have e1 : ((d : Int) != (d : Int)) = false := bne_self_eq_false _
        have e2 : ((s : Int) != (s : Int)) = false := bne_self_eq_false _
        have e3 : ((T' : Int) != (T' : Int)) = false := bne_self_eq_false _
        have hp : ∀ j, Blk (w2.drewN j) g 46 #[.pointer (some ⟨gf, 0, none⟩), .int .u8 (s : Int), .int .i64 (d : Int)] := fun j => Blk.below hP2 (below_drewN (Below.refl w2.heap.size w2) j) hP2.lt
        have hf : ∀ j, Blk (w2.drewN j) gf 50 #[.slice o n c, .int .i64 (T' : Int)] := fun j => Blk.below hF2 (below_drewN (Below.refl w2.heap.size w2) j) hF2.lt
        have Hp := hide hp
        have Hf := hide hf
        clear hp hf
        go_wp2_with fail
        go_quiet ((first
          | (go_at_call 11; first | exact quiet_left (ptPad_calls g gf s d _ (Hp.out _)) | exact quiet_add_left (ptPad_calls g gf s d _ (Hp.out _)))
          | (go_at_call 15; first | exact quiet_left (ptSelect_calls g gf s d _ (Hp.out _)) | exact quiet_add_left (ptSelect_calls g gf s d _ (Hp.out _)))
          | (go_at_call 12; first | exact quiet_left (ptTaken_calls g gf s d o n c T' _ (Hp.out _) (Hf.out _)) | exact quiet_add_left (ptTaken_calls g gf s d o n c T' _ (Hp.out _) (Hf.out _)))))
        go_wp2_with fail
        go_roundw
        case rel => exact ⟨k + 1, s, d, T', by omega, by omega, hs, hd, by go_num, Hp.out _, Hf.out _, Blk.below hQ2 (below_drewN (Below.refl w2.heap.size w2) _) hQ2.lt, hor2.trans (Only.of (below_drewN (Below.refl w2.heap.size w2) _))⟩
        case measure => simp [intOf]; omega
      · rw [hw] at hc0
        clear hw
        go_wp2_with fail
        refine (ptWrite_calls g gf s d (Bv k) _ hb256 hs hd hPr).mono ?_
        rintro e w1 ⟨⟨v, rfl⟩, hP1, ho1⟩
        have hQ1 := hQr.only ho1 hne2
        have hF1 := hFr.only ho1 hne1.symm
        have hc11 : w1.cell? ⟨b, off + k * 2 + 1, none⟩ = some (.int .u8 (Bv k : Int)) := (World.cell?_of_block (ho1.block b hbl (by omega))).trans hc1
        go_wp2_with fail
        refine (qWrite_calls h o2 n c2 T s d (Bv k) _ hb256 hs hd hQ1).mono ?_
        rintro e w2 ⟨⟨v2, rfl⟩, hQ2, ho2⟩
        have hP2 := hP1.only ho2 hne2.symm
        have hF2 := hF1.only ho2 hne3.symm
        have hor2 : Only (fun k => k = gf ∨ k = g ∨ k = h) w w2 := (hor.trans (ho1.mono fun j _ e => Or.inr (Or.inl e))).trans (ho2.mono fun j _ e => Or.inr (Or.inr e))
        have hd2 := ptD_le s d (Bv k) hd
        have hs2 : Bv k % 4 < 4 := Nat.mod_lt _ (by omega)
        generalize ptD s d (Bv k) = d' at *
        generalize Bv k % 4 = s' at *
        have hcq1 : w2.cell? ⟨h, 1, none⟩ = some (.int .i64 (T : Int)) := hQ2.cell 1
        have hcq2 : w2.cell? ⟨h, 2, none⟩ = some (.int .u8 (s' : Int)) := hQ2.cell 2
        have hcq3 : w2.cell? ⟨h, 3, none⟩ = some (.int .i64 (d' : Int)) := hQ2.cell 3
        have e1 : ((d' : Int) != (d' : Int)) = false := bne_self_eq_false _
        have e2 : ((s' : Int) != (s' : Int)) = false := bne_self_eq_false _
        have e3 : ((T : Int) != (T : Int)) = false := bne_self_eq_false _
        have hp : ∀ j, Blk (w2.drewN j) g 46 #[.pointer (some ⟨gf, 0, none⟩), .int .u8 (s' : Int), .int .i64 (d' : Int)] := fun j => Blk.below hP2 (below_drewN (Below.refl w2.heap.size w2) j) hP2.lt
        have hf : ∀ j, Blk (w2.drewN j) gf 50 #[.slice o n c, .int .i64 (T : Int)] := fun j => Blk.below hF2 (below_drewN (Below.refl w2.heap.size w2) j) hF2.lt
        have Hp := hide hp
        have Hf := hide hf
        clear hp hf
        go_wp2_with fail
        go_quiet ((first
          | (go_at_call 11; first | exact quiet_left (ptPad_calls g gf s' d' _ (Hp.out _)) | exact quiet_add_left (ptPad_calls g gf s' d' _ (Hp.out _)))
          | (go_at_call 15; first | exact quiet_left (ptSelect_calls g gf s' d' _ (Hp.out _)) | exact quiet_add_left (ptSelect_calls g gf s' d' _ (Hp.out _)))
          | (go_at_call 12; first | exact quiet_left (ptTaken_calls g gf s' d' o n c T _ (Hp.out _) (Hf.out _)) | exact quiet_add_left (ptTaken_calls g gf s' d' o n c T _ (Hp.out _) (Hf.out _)))))
        go_wp2_with fail
        go_roundw
        case rel => exact ⟨k + 1, s', d', T, by omega, by omega, hs2, hd2, by go_num, Hp.out _, Hf.out _, Blk.below hQ2 (below_drewN (Below.refl w2.heap.size w2) _) hQ2.lt, hor2.trans (Only.of (below_drewN (Below.refl w2.heap.size w2) _))⟩
        case measure => simp [intOf]; omega
    · obtain rfl : k = m := by omega
      go_wp2_with fail
      go_ret
      exact ⟨rfl, s, d, T, hs, hd, hTk, hPr, hFr, hQr, hor⟩
end Go.Proofs.Ytndochgmhnpdfaa
