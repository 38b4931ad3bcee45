/-
  gannetlaw07: play.
-/
import Derived.Test.YtdnpfddepnefnaaL07
namespace Go.Proofs.Ytdnpfddepnefnaa
open Go.RowKit

/-- Steps, in blocks below B. -/
def StpB (w : World) (a : Option Addr) (n : Nat) (T : Nat → Int) (K : Nat → Bool) (B : Nat) : Prop :=
  ∀ i, i < n → ∃ b off, a = some ⟨b, off, none⟩ ∧ b < B ∧ w.cell? ⟨b, off + i * 2, none⟩ = some (.int .i64 (T i)) ∧ w.cell? ⟨b, off + i * 2 + 1, none⟩ = some (.bool (K i))
theorem StpB.only {S : Nat → Prop} {w w' : World} {a : Option Addr} {n : Nat} {T : Nat → Int} {K : Nat → Bool} {B : Nat} (h : StpB w a n T K B) (ho : Only S w w') (hs : ∀ j, j < B → ¬ S j) : StpB w' a n T K B := fun i hi => by
  obtain ⟨b, off, ha, hlt, h0, h1⟩ := h i hi
  have e := ho.block b (cell_lt h0) (hs b hlt)
  exact ⟨b, off, ha, hlt, (World.cell?_of_block e).trans h0, (World.cell?_of_block e).trans h1⟩
theorem StpB.mono {w : World} {a : Option Addr} {n : Nat} {T : Nat → Int} {K : Nat → Bool} {B B' : Nat} (h : StpB w a n T K B) (hb : B ≤ B') : StpB w a n T K B' := fun i hi => by
  obtain ⟨b, off, ha, hlt, r⟩ := h i hi
  exact ⟨b, off, ha, by omega, r⟩
theorem EdgB.only2 {w w' : World} {a : Option Addr} {n : Nat} {St : Nat → Int} {Ln : Nat → Nat} {Up : Nat → Bool} {B : Nat} {S : Nat → Prop} (h : EdgB w a n St Ln Up B) (ho : Only S w w') (hne : 0 < n → ∀ x, a = some x → ¬ S x.block) : EdgB w' a n St Ln Up w'.heap.size := fun i hi => by
  obtain ⟨b, off, ha, hlt, h0, h1, h2⟩ := h i hi
  have e := ho.block b (cell_lt h0) (hne (by omega) _ ha)
  exact ⟨b, off, ha, Nat.lt_of_lt_of_le (cell_lt h0) ho.size, (World.cell?_of_block e).trans h0, (World.cell?_of_block e).trans h1, (World.cell?_of_block e).trans h2⟩
theorem next_both (g h : Nat) (o o2 : Option Addr) (n c c2 s : Nat) (St : Nat → Int) (Ln : Nat → Nat) (Up : Nat → Bool) (r : Bool) :
    ∃ (v : Int) (b : Bool), (∀ W, LB W g o n c s Ln Up r → EdgB W o n St Ln Up W.heap.size → Calls Try.prog 20 #[.pointer (some ⟨g, 0, none⟩)] W fun e w' => e = .returned (.tuple #[.int .i64 v, .bool b]) ∧ ∃ q, w' = W.drewN q) ∧
      (∀ W B, RL W h o2 n c2 s r → EdgB W o2 n St Ln Up B → Calls Try.prog 25 #[.pointer (some ⟨h, 0, none⟩)] W fun e w' => e = .returned (.tuple #[.int .i64 v, .bool b]) ∧ ∃ q, w' = W.drewN q) := by
  by_cases hs : s < n
  · exact ⟨St s, true, fun W hL hE => lnNext_some g o n c s St Ln Up r W hL hE hs, fun W B hR hE => rlNext_some h o2 n c2 s St Ln Up r B W hR hE hs⟩
  · exact ⟨0, false, fun W hL hE => lnNext_none g o n c s Ln Up r W hL (by omega), fun W B hR hE => rlNext_none h o2 n c2 s r W hR (by omega)⟩
theorem upE_none {n : Nat} {Ln : Nat → Nat} {Up : Nat → Bool} {k : Nat} (hk : 4 ≤ k) (h : ∀ i, i < n → Ln i < 4) : ∀ s, s ≤ n → upE Ln Up k s = false
  | 0, _ => rfl
  | s + 1, hs => by
    have := h s (by omega)
    show (if Ln s = k then Up s else upE Ln Up k s) = false
    rw [if_neg (by omega)]
    exact upE_none hk h s (by omega)
theorem upK_upE {n : Nat} {St : Nat → Int} {Ln : Nat → Nat} {Up : Nat → Bool} (k s : Nat) (hok : EdgOk n St Ln) (hs : s ≤ n) : upE Ln Up k s = upK Ln Up k s := by
  unfold upK
  by_cases hk : k < 4
  · rw [if_pos hk]
  · rw [if_neg hk]
    exact upE_none (by omega) (fun i hi => (hok.2 i hi).1) s hs
theorem only_drewN {S : Nat → Prop} {w w' : World} (h : Only S w w') (q : Nat) : Only S w (w'.drewN q) := ⟨h.os, h.tape, h.output, h.size, h.block⟩
theorem lnTo_n (g : Nat) (o : Option Addr) (n c s : Nat) (St : Nat → Int) (Ln : Nat → Nat) (Up : Nat → Bool) (r : Bool) (stamp : Int) (w : World) (hok : EdgOk n St Ln) (hs : s ≤ n) (hL : LB w g o n c s Ln Up r) (hE : EdgB w o n St Ln Up w.heap.size) (hne : 0 < n → ∀ x, o = some x → x.block ≠ g) :
    Calls Try.prog 18 #[.pointer (some ⟨g, 0, none⟩), .int .i64 stamp] w fun e w' => (∃ v, e = .returned v) ∧
      LB w' g o n c (toE St Ln Up stamp (n - s) s r).1 Ln Up (toE St Ln Up stamp (n - s) s r).2 ∧ Only (fun j => j = g) w w' := by
  by_cases hn : 0 < n
  · exact lnTo_calls g o n c s St Ln Up r stamp w hok hs hL hE (hne hn)
  · obtain rfl : n = 0 := by omega
    obtain rfl : s = 0 := by omega
    go_enter Try.func18, Try.ntmps18
    go_wp2_with fail
    go_loopw [4, 5] (fun _ _ wr => wr = w) (fun _ _ wr => 0)
    case atStart => rfl
    case round =>
      subst hrel
      go_wp2_with fail
      refine (lnNext_none g o 0 c 0 Ln Up r _ hL (Nat.le_refl _)).mono ?_
      rintro e w1 ⟨rfl, nq, rfl⟩
      go_wp2_with fail
      (try simp only [Exit.inBlock, Exit.then])
      refine bodyPost_ret (results_none rfl _ _ _) rfl ?_
      exact ⟨⟨_, rfl⟩, hL, only_drewN (Only.refl _ _) nq⟩
theorem rlTo_n (h : Nat) (o : Option Addr) (n c s : Nat) (St : Nat → Int) (Ln : Nat → Nat) (Up : Nat → Bool) (r : Bool) (stamp : Int) (w : World) (hok : EdgOk n St Ln) (hs : s ≤ n) (hL : RL w h o n c s r) (hE : EdgB w o n St Ln Up w.heap.size) (hne : 0 < n → ∀ x, o = some x → x.block ≠ h) :
    Calls Try.prog 24 #[.pointer (some ⟨h, 0, none⟩), .int .i64 stamp] w fun e w' => (∃ v, e = .returned v) ∧
      RL w' h o n c (toE St Ln Up stamp (n - s) s r).1 (toE St Ln Up stamp (n - s) s r).2 ∧ Only (fun j => j = h) w w' := by
  by_cases hn : 0 < n
  · exact rlTo_calls h o n c s St Ln Up r stamp w hok hs hL hE (hne hn)
  · obtain rfl : n = 0 := by omega
    obtain rfl : s = 0 := by omega
    have c0 : w.cell? ⟨h, 0, none⟩ = some (.slice o 0 c) := Blk.cell hL 0
    have c1 : w.cell? ⟨h, 1, none⟩ = some (.int .i64 0) := Blk.cell hL 1
    go_enter Try.func24, Try.ntmps24
    go_wp2_with fail
    go_loopw [4] (fun _ wr => wr = w) (fun _ wr => 0)
    case atStart => rfl
    case round =>
      subst hrel
      go_wp2_with fail
      go_quiet (fail)
      go_wp2_with fail
      go_end0
      exact ⟨⟨_, rfl⟩, hL, only_drewN (Only.refl _ _) nq⟩
set_option maxRecDepth 100000 in
set_option maxHeartbeats 4000000 in
theorem play07_calls (g h : Nat) (o o2 : Option Addr) (n c c2 s : Nat) (St : Nat → Int) (Ln : Nat → Nat) (Up : Nat → Bool) (r : Bool) (a : Option Addr) (m ca : Nat) (T : Nat → Int) (K : Nat → Bool) (B : Nat) (w : World)
    (hok : EdgOk n St Ln) (hm : m ≤ 40) (hgh : g ≠ h) (hs : s ≤ n) (hL : LB w g o n c s Ln Up r) (hR : RL w h o2 n c2 s r) (hG : EdgB w o n St Ln Up w.heap.size) (hE : EdgB w o2 n St Ln Up w.heap.size)
    (hog : 0 < n → ∀ x, o = some x → ¬ (x.block = g ∨ x.block = h)) (hoh : 0 < n → ∀ x, o2 = some x → ¬ (x.block = g ∨ x.block = h)) (hS : StpB w a m T K B) (hBg : B ≤ g) (hBh : B ≤ h) :
    Calls Try.prog 13 #[.pointer (some ⟨g, 0, none⟩), .pointer (some ⟨h, 0, none⟩), .slice a m ca] w
      fun e w' => e = .returned (.bool true) ∧ ∃ s' r', s' ≤ n ∧ LB w' g o n c s' Ln Up r' ∧ RL w' h o2 n c2 s' r' ∧ Only (fun b => b = g ∨ b = h) w w' := by
  have hbs : ∀ u : Bool, (u != u) = false := fun u => bne_self_eq_false u
  go_enter Try.func13, Try.ntmps13
  go_wp2_with fail
  go_loopw [7] (fun i wr => ∃ (j s' : Nat) (r' : Bool), j ≤ m ∧ s' ≤ n ∧ i = .int .i64 (j : Int) ∧ LB wr g o n c s' Ln Up r' ∧ RL wr h o2 n c2 s' r' ∧ Only (fun b => b = g ∨ b = h) w wr) (fun i _ => m - (intOf i).toNat)
  case atStart => exact ⟨0, s, r, by omega, hs, rfl, hL, hR, Only.refl _ _⟩
  case round =>
    obtain ⟨j, s1, r1, hj, hs1, rfl, hLr, hRr, hor⟩ := hrel
    by_cases hjm : j < m
    · have hjm' : (j : Int) < (m : Int) := by omega
      obtain ⟨b, off, rfl, hlt, x0, x1⟩ := (hS.only hor (fun b hb e => by omega)) j hjm
      have hGr := hG.only2 hor hog
      have hEr := hE.only2 hor hoh
      generalize T j = st at *
      obtain ⟨kk, hkk⟩ : ∃ kk, K j = kk := ⟨_, rfl⟩
      rw [hkk] at x1
      cases kk with
      | false =>
        go_wp2_with fail
        refine (lnTo_n g o n c s1 St Ln Up r1 st _ hok hs1 hLr hGr (fun h0 x hx e => hog h0 x hx (Or.inl e))).mono ?_
        rintro e w4 ⟨⟨_, rfl⟩, hL4, ho4⟩
        have hR4 : RL w4 h o2 n c2 s1 r1 := Blk.only hRr ho4 (fun e => hgh e.symm)
        have ho04 : Only (fun b => b = g ∨ b = h) w w4 := hor.trans (ho4.mono fun _ _ e => Or.inl e)
        have hx4 : w4.cell? ⟨b, off + j * 2, none⟩ = some (.int .i64 st) := (World.cell?_of_block (ho4.block b (cell_lt x0) (by omega))).trans x0
        go_wp2_with fail
        refine (rlTo_n h o2 n c2 s1 St Ln Up r1 st _ hok hs1 hR4 (hE.only2 ho04 hoh) (fun h0 x hx e => hoh h0 x hx (Or.inr e))).mono ?_
        rintro e w5 ⟨⟨_, rfl⟩, hR5, ho5⟩
        have hL5 := Blk.only hL4 ho5 hgh
        have ho5 : Only (fun b => b = g ∨ b = h) w w5 := ho04.trans (ho5.mono fun _ _ e => Or.inr e)
        have hle := toE_le (St := St) (Ln := Ln) (Up := Up) (stamp := st) (n - s1) s1 r1
        generalize toE St Ln Up st (n - s1) s1 r1 = tt at *
        obtain ⟨s2, r2⟩ := tt
        have hs2 : s2 ≤ n := by have := hle.2; dsimp only at this; omega
        have hL5 : LB w5 g o n c s2 Ln Up r2 := hL5
        have hR5 : RL w5 h o2 n c2 s2 r2 := hR5
        clear hL4 hR4 ho4 ho04 hx4 hle x0 x1 hLr hRr hor hGr hEr
        obtain ⟨v, bb, HN1, HN2⟩ := next_both g h o o2 n c c2 s2 St Ln Up r2
        go_wp2_with fail
        refine (HN1 w5 hL5 (hG.only2 ho5 hog)).mono ?_
        rintro e w6 ⟨rfl, q6, rfl⟩
        have hL6 : LB (w5.drewN q6) g o n c s2 Ln Up r2 := hL5
        have hR6 : RL (w5.drewN q6) h o2 n c2 s2 r2 := hR5
        have ho6 : Only (fun b => b = g ∨ b = h) w (w5.drewN q6) := only_drewN ho5 q6
        generalize w5.drewN q6 = w6 at *
        go_wp2_with fail
        refine (HN2 w6 _ hR6 (hE.only2 ho6 hoh)).mono ?_
        rintro e w7 ⟨rfl, q7, rfl⟩
        have hL7 : LB (w6.drewN q7) g o n c s2 Ln Up r2 := hL6
        have hR7 : RL (w6.drewN q7) h o2 n c2 s2 r2 := hR6
        have ho7 : Only (fun b => b = g ∨ b = h) w (w6.drewN q7) := only_drewN ho6 q7
        generalize w6.drewN q7 = w7 at *
        clear hL5 hR5 ho5 hL6 hR6 ho6 HN1 HN2
        have c1 : w7.cell? ⟨h, 1, none⟩ = some (.int .i64 (s2 : Int)) := Blk.cell hR7 1
        have c2_ : w7.cell? ⟨h, 2, none⟩ = some (.bool r2) := Blk.cell hR7 2
        have z1 : (v != v) = false := bne_self_eq_false v
        have z2 := hbs bb
        have z3 : ((s2 : Int) != (s2 : Int)) = false := bne_self_eq_false _
        have z4 := hbs r2
        have k1 := fun q => lnSeen_calls g o n c s2 Ln Up r2 (w7.drewN q) hL7
        have k2 := fun q => lnRose_calls g o n c s2 Ln Up r2 (w7.drewN q) hL7
        go_wp2_with fail
        go_quiet ((first | (go_at_call 16; first | exact quiet_left (k1 _) | exact quiet_add_left (k1 _)) | (go_at_call 17; first | exact quiet_left (k2 _) | exact quiet_add_left (k2 _))))
        have hL8 : LB (w7.drewN nq) g o n c s2 Ln Up r2 := hL7
        have hR8 : RL (w7.drewN nq) h o2 n c2 s2 r2 := hR7
        have ho8 : Only (fun b => b = g ∨ b = h) w (w7.drewN nq) := only_drewN ho7 nq
        generalize w7.drewN nq = w8 at *
        clear hL7 hR7 ho7 c1 c2_ z1 z2 z3 z4 k1 k2
        go_wp2_with fail
        go_loopw [12] (fun k wx => ∃ q : Nat, q ≤ 6 ∧ k = .int .i64 (q : Int) ∧ wx = w8) (fun k _ => 6 - (intOf k).toNat)
        case atStart => exact ⟨0, by omega, rfl, rfl⟩
        case round =>
          obtain ⟨q, hq, rfl, rfl⟩ := hrel
          by_cases hq6 : q < 6
          · have i1 : (q : Int) < 6 := by omega
            have hu1 := lnUp_calls g o n c s2 q Ln Up r2 wr hL8
            have hu2 := rlUp_calls h o2 n c2 s2 q St Ln Up r2 _ wr hok.1 hR8 (hE.only2 ho8 hoh) hs2
            rw [upK_upE q s2 hok hs2] at hu2
            generalize upK Ln Up q s2 = uu at *
            have z5 := hbs uu
            go_wp2_with fail
            refine Cl.p hu1 ?_
            go_wp2_with fail
            refine Cl.p hu2 ?_
            go_wp2_with fail
            go_roundw
            case rel => exact ⟨q + 1, by omega, by go_num, trivial⟩
            case measure => simp [intOf]; omega
          · have i1 : (decide ((q : Int) < 6)) = false := by rw [decide_eq_false_iff_not]; omega
            go_wp2_with fail
            go_roundw
            case rel => exact ⟨j + 1, s2, r2, by omega, hs2, by go_num, hL8, hR8, ho8⟩
            case measure => simp [intOf]; omega
      | true =>
        go_wp2_with fail
        refine (lnTake_calls g o n c s1 Ln Up r1 _ hLr).mono ?_
        rintro e w4 ⟨⟨_, rfl⟩, hL4, ho4⟩
        have hR4 : RL w4 h o2 n c2 s1 r1 := Blk.only hRr ho4 (fun e => hgh e.symm)
        have ho04 : Only (fun b => b = g ∨ b = h) w w4 := hor.trans (ho4.mono fun _ _ e => Or.inl e)
        have d2 : w4.cell? ⟨h, 2, none⟩ = some (.bool r1) := Blk.cell hR4 2
        have f2 : w4.frozen? ⟨h, 2, none⟩ = false := Blk.frozen hR4 2
        have hR5 : RL (w4.setCell ⟨h, 2, none⟩ (.bool false)) h o2 n c2 s1 false := Blk.set_ hR4 2 (.bool false)
        have hL5 : LB (w4.setCell ⟨h, 2, none⟩ (.bool false)) g o n c s1 Ln Up false := Blk.far hL4 (p := ⟨h, 2, none⟩) (by simp; omega) _
        have ho5 : Only (fun b => b = g ∨ b = h) w (w4.setCell ⟨h, 2, none⟩ (.bool false)) := ho04.setCell ⟨h, 2, none⟩ (Or.inr rfl) _
        go_wp2_with fail
        generalize w4.setCell ⟨h, 2, none⟩ (.bool false) = w5 at *
        obtain ⟨s2, hs2e⟩ : ∃ s2, s1 = s2 := ⟨_, rfl⟩
        obtain ⟨r2, hr2⟩ : ∃ r2 : Bool, false = r2 := ⟨_, rfl⟩
        have hs2 : s2 ≤ n := by omega
        rw [hs2e, hr2] at hL5 hR5
        clear hL4 hR4 ho4 ho04 d2 f2 x0 x1 hLr hRr hor hGr hEr hr2 hs2e
        obtain ⟨v, bb, HN1, HN2⟩ := next_both g h o o2 n c c2 s2 St Ln Up r2
        go_wp2_with fail
        refine (HN1 w5 hL5 (hG.only2 ho5 hog)).mono ?_
        rintro e w6 ⟨rfl, q6, rfl⟩
        have hL6 : LB (w5.drewN q6) g o n c s2 Ln Up r2 := hL5
        have hR6 : RL (w5.drewN q6) h o2 n c2 s2 r2 := hR5
        have ho6 : Only (fun b => b = g ∨ b = h) w (w5.drewN q6) := only_drewN ho5 q6
        generalize w5.drewN q6 = w6 at *
        go_wp2_with fail
        refine (HN2 w6 _ hR6 (hE.only2 ho6 hoh)).mono ?_
        rintro e w7 ⟨rfl, q7, rfl⟩
        have hL7 : LB (w6.drewN q7) g o n c s2 Ln Up r2 := hL6
        have hR7 : RL (w6.drewN q7) h o2 n c2 s2 r2 := hR6
        have ho7 : Only (fun b => b = g ∨ b = h) w (w6.drewN q7) := only_drewN ho6 q7
        generalize w6.drewN q7 = w7 at *
        clear hL5 hR5 ho5 hL6 hR6 ho6 HN1 HN2
        have c1 : w7.cell? ⟨h, 1, none⟩ = some (.int .i64 (s2 : Int)) := Blk.cell hR7 1
        have c2_ : w7.cell? ⟨h, 2, none⟩ = some (.bool r2) := Blk.cell hR7 2
        have z1 : (v != v) = false := bne_self_eq_false v
        have z2 := hbs bb
        have z3 : ((s2 : Int) != (s2 : Int)) = false := bne_self_eq_false _
        have z4 := hbs r2
        have k1 := fun q => lnSeen_calls g o n c s2 Ln Up r2 (w7.drewN q) hL7
        have k2 := fun q => lnRose_calls g o n c s2 Ln Up r2 (w7.drewN q) hL7
        go_wp2_with fail
        go_quiet ((first | (go_at_call 16; first | exact quiet_left (k1 _) | exact quiet_add_left (k1 _)) | (go_at_call 17; first | exact quiet_left (k2 _) | exact quiet_add_left (k2 _))))
        have hL8 : LB (w7.drewN nq) g o n c s2 Ln Up r2 := hL7
        have hR8 : RL (w7.drewN nq) h o2 n c2 s2 r2 := hR7
        have ho8 : Only (fun b => b = g ∨ b = h) w (w7.drewN nq) := only_drewN ho7 nq
        generalize w7.drewN nq = w8 at *
        clear hL7 hR7 ho7 c1 c2_ z1 z2 z3 z4 k1 k2
        go_wp2_with fail
        go_loopw [12] (fun k wx => ∃ q : Nat, q ≤ 6 ∧ k = .int .i64 (q : Int) ∧ wx = w8) (fun k _ => 6 - (intOf k).toNat)
        case atStart => exact ⟨0, by omega, rfl, rfl⟩
        case round =>
          obtain ⟨q, hq, rfl, rfl⟩ := hrel
          by_cases hq6 : q < 6
          · have i1 : (q : Int) < 6 := by omega
            have hu1 := lnUp_calls g o n c s2 q Ln Up r2 wr hL8
            have hu2 := rlUp_calls h o2 n c2 s2 q St Ln Up r2 _ wr hok.1 hR8 (hE.only2 ho8 hoh) hs2
            rw [upK_upE q s2 hok hs2] at hu2
            generalize upK Ln Up q s2 = uu at *
            have z5 := hbs uu
            go_wp2_with fail
            refine Cl.p hu1 ?_
            go_wp2_with fail
            refine Cl.p hu2 ?_
            go_wp2_with fail
            go_roundw
            case rel => exact ⟨q + 1, by omega, by go_num, trivial⟩
            case measure => simp [intOf]; omega
          · have i1 : (decide ((q : Int) < 6)) = false := by rw [decide_eq_false_iff_not]; omega
            go_wp2_with fail
            go_roundw
            case rel => exact ⟨j + 1, s2, r2, by omega, hs2, by go_num, hL8, hR8, ho8⟩
            case measure => simp [intOf]; omega
    · obtain rfl : j = m := by omega
      have i2 : (decide ((j : Int) < (j : Int))) = false := by rw [decide_eq_false_iff_not]; omega
      go_wp2_with fail
      go_ret
      exact ⟨rfl, s1, r1, hs1, hLr, hRr, hor⟩
end Go.Proofs.Ytdnpfddepnefnaa
