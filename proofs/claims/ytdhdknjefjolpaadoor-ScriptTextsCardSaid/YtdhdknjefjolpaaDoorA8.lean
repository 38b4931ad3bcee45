/-
  The texts Sc18, Sc19, Sc20, Sc21, Sc22 of the proofs about scripts, as one file (they are merged by a program).
-/
import Derived.Test.YtdhdknjefjolpaaDoorA7
import Derived.Deep.AppendLies
import Derived.Deep.DeepCutAuto
section
/-
  gannetref33.Told: number.
-/
namespace Go.Proofs.YtdhdknjefjolpaaDoor
set_option linter.unusedSimpArgs false
set_option linter.unusedVariables false
set_option maxRecDepth 10000
open Go.RowKit Go.Shelf Pl
def oI : Option Nat → Int | none => -1 | some n => n
def tdR (T : Tl) (vp v0 v1 v2 ve : Value) : Array Value := #[.int .i64 (oI T.pg), .int .i64 (oI T.bd), vp, v0, v1, v2, ve]
def TD (W : World) (base r : Nat) (T : Tl) : Prop := r < base ∧ base ≤ W.heap.size ∧ ∃ vp v0 v1 v2 ve Q, Blk W r 70 (tdR T vp v0 v1 v2 ve) ∧ SL W base vp v0 v1 v2 ve Q T
theorem SL.setCell {W : World} {base : Nat} {vp v0 v1 v2 ve : Value} {Q : List Pq} {T : Tl} (h : SL W base vp v0 v1 v2 ve Q T) (p : Addr) (hp : p.block < base) (u : Value) : SL (W.setCell p u) base vp v0 v1 v2 ve Q T :=
  h.keep fun g hg hl => (Only.setCell (S := fun k => k = p.block) (Only.refl _ W) p rfl u).block g hl (by omega)
theorem TD.low {W W' : World} {base r : Nat} {T : Tl} (h : TD W base r T) (hb : Below W.heap.size W W') : TD W' base r T := by
  obtain ⟨h1, h2, vp, v0, v1, v2, ve, Q, h3, h4⟩ := h
  exact ⟨h1, Nat.le_trans h2 hb.size, vp, v0, v1, v2, ve, Q, h3.below hb h3.lt, h4.below hb (Nat.le_refl _)⟩
theorem only_cell {W : World} (p : Addr) (u : Value) (hp : p.block < W.heap.size) : Below p.block W (W.setCell p u) :=
  (Only.setCell (S := fun k => k = p.block) (Only.refl _ W) p rfl u).below (by omega) (fun k e => by (have e : k = _ := e); omega)
theorem tnumA {w : World} {r : Nat} {o : Option Addr} {x : List UInt8} {R : List (List UInt8)} (hL : WsAt w o (x :: R)) : ∃ b off, o = some ⟨b, off, none⟩ ∧ b < w.heap.size ∧ w.cell? ⟨b, off, none⟩ = some (.string ⟨x.toArray⟩) ∧ ∀ y R', R = y :: R' → w.cell? ⟨b, off + 1, none⟩ = some (.string ⟨y.toArray⟩) := by
  obtain ⟨b, off, rfl, hb, hc⟩ := hL.addr (by simp)
  exact ⟨b, off, rfl, hb, hc 0 x rfl, fun y R' e => hc 1 y (by rw [e]; rfl)⟩
theorem onceT_err {T : Tl} (bud : Bool) {L : List (List UInt8)} (h : (numL L).2 ≠ 0) : onceT T bud L = (3, T) := by unfold onceT; rw [if_pos h]
set_option maxHeartbeats 4000000 in
theorem tnum_bd (r base c : Nat) (o : Option Addr) (R : List (List UInt8)) (T : Tl) (w : World) (hT : TD w base r T) (hL : WsAt w o (wBudget :: R)) :
    Calls Tryd.prog 63 #[.pointer (some ⟨r, 0, none⟩), .slice o (R.length + 1) c] w fun e w' => e = .returned (.int .i64 ((onceT T true R).1 : Int)) ∧ TD w' base r (onceT T true R).2 ∧ Below r w w' := by
  obtain ⟨b, off, rfl, hbl, hc0, hc1⟩ := tnumA (r := r) hL
  obtain ⟨hrb, hbs, vp, v0, v1, v2, ve, Q, hB, hS⟩ := hT
  have hrl := hB.lt
  match R, hc1 with
  | [], _ =>
    have e1 : onceT T true [] = (3, T) := rfl
    rw [e1]
    clear e1 hL hc0
    have HB := hide hB
    have HS := hide hS
    clear hB hS
    go_enter Tryd.func63, Tryd.ntmps63
    go_wp2_with fail
    go_ret
    exact ⟨rfl, ⟨hrb, hbs, vp, v0, v1, v2, ve, Q, HB.out, HS.out⟩, Below.refl _ _⟩
  | y :: z :: R', _ =>
    have e1 : onceT T true (y :: z :: R') = (3, T) := rfl
    rw [e1]
    have hz : ((((y :: z :: R').length + 1 : Nat) : Int) != 2) = true := by rw [bne_iff_ne]; simp; omega
    generalize (y :: z :: R').length = n at *
    clear e1 hL hc0
    have HB := hide hB
    have HS := hide hS
    clear hB hS
    go_enter Tryd.func63, Tryd.ntmps63
    go_wp2_with fail
    go_ret
    exact ⟨rfl, ⟨hrb, hbs, vp, v0, v1, v2, ve, Q, HB.out, HS.out⟩, Below.refl _ _⟩
  | [y], hc1 =>
    have hc1 := hc1 y [] rfl
    have hN := rnum_calls ⟨y.toArray⟩ w
    have e : (⟨y.toArray⟩ : ByteArray).data.toList = y := rfl
    rw [e] at hN
    clear e hL
    have HB := hide hB
    have HS := hide hS
    have HC := hide hc0
    clear hB hS hc0
    have HT : Hid (TD w base r T) := ⟨hrb, hbs, vp, v0, v1, v2, ve, Q, HB.out, HS.out⟩
    have hk : Hid (w.cell? ⟨r, 1, none⟩ = some (.int .i64 (oI T.bd))) := HB.out.cell 1
    have hf : Hid (∀ W, Below w.heap.size w W → W.frozen? ⟨r, 1, none⟩ = false) := fun W hb => (HB.out.below hb HB.out.lt).frozen 1
    by_cases he : (numV y).2 = 0
    · have hz : (((numV y).2 : Int) != 0) = false := by rw [he]; rfl
      have hnl : numL [y] = ((numV y).1, 0) := by unfold numL; dsimp only; rw [if_neg (by omega)]
      cases hbd : T.bd with
      | some q =>
        rw [hbd] at hk
        have e1 : onceT T true [y] = (11, T) := by unfold onceT; rw [hnl, hbd]; rfl
        rw [e1]
        clear e1 he hnl
        go_enter Tryd.func63, Tryd.ntmps63
        go_wp2_with fail
        refine hN.mono ?_
        clear hN hc1
        rintro e w2 ⟨rfl, hb2⟩
        have hc0 : w2.cell? ⟨b, off, none⟩ = some (.string ⟨#[98, 117, 100, 103, 101, 116]⟩) := (hb2.cell (cell_lt HC.out)).trans HC.out
        have hk2 : w2.cell? ⟨r, 1, none⟩ = some (.int .i64 (q : Int)) := (hb2.cell (cell_lt hk.out)).trans hk.out
        have hq : (0 : Int) ≤ (q : Int) := by omega
        clear hbd
        go_wp2_with fail
        go_ret
        exact ⟨rfl, HT.out.low hb2, hb2.mono (Nat.le_of_lt hrl)⟩
      | none =>
        rw [hbd] at hk
        have e1 : onceT T true [y] = (0, { T with bd := some (numV y).1 }) := by unfold onceT; rw [hnl, hbd]; rfl
        rw [e1]
        clear e1 he hnl
        go_enter Tryd.func63, Tryd.ntmps63
        go_wp2_with fail
        refine hN.mono ?_
        clear hN hc1
        rintro e w2 ⟨rfl, hb2⟩
        have hc0 : w2.cell? ⟨b, off, none⟩ = some (.string ⟨#[98, 117, 100, 103, 101, 116]⟩) := (hb2.cell (cell_lt HC.out)).trans HC.out
        have hk2 : w2.cell? ⟨r, 1, none⟩ = some (.int .i64 (-1)) := (hb2.cell (cell_lt hk.out)).trans hk.out
        have hfr := hf.out w2 hb2
        have hq : (decide ((0 : Int) ≤ -1)) = false := rfl
        clear hbd
        go_wp2_with fail
        go_ret
        have hB2 := HB.out.below hb2 HB.out.lt
        have hS2 := HS.out.below hb2 (Nat.le_refl _)
        refine ⟨rfl, ⟨hrb, ?_, vp, v0, v1, v2, ve, Q, Blk.set_ hB2 1 _, (hS2.setCell ⟨r, 1, none⟩ hrb _).told _ rfl rfl rfl rfl rfl⟩, (hb2.mono (Nat.le_of_lt hrl)).trans (only_cell ⟨r, 1, none⟩ _ hB2.lt)⟩
        have := hb2.size
        simp only [World.setCell]
        (try simp); omega
    · have hz : (((numV y).2 : Int) != 0) = true := by rw [bne_iff_ne]; omega
      have e1 : onceT T true [y] = (3, T) := onceT_err _ (by unfold numL; dsimp only; rw [if_pos he]; decide)
      rw [e1]
      clear e1 he
      go_enter Tryd.func63, Tryd.ntmps63
      go_wp2_with fail
      refine hN.mono ?_
      clear hN hc1
      rintro e w2 ⟨rfl, hb2⟩
      have hc0 : w2.cell? ⟨b, off, none⟩ = some (.string ⟨#[98, 117, 100, 103, 101, 116]⟩) := (hb2.cell (cell_lt HC.out)).trans HC.out
      have hn3 : True := trivial
      go_wp2_with fail
      go_ret
      exact ⟨rfl, HT.out.low hb2, hb2.mono (Nat.le_of_lt hrl)⟩
set_option maxHeartbeats 4000000 in
theorem tnum_pg (r base c : Nat) (o : Option Addr) (R : List (List UInt8)) (T : Tl) (w : World) (hT : TD w base r T) (hL : WsAt w o (wPages :: R)) :
    Calls Tryd.prog 63 #[.pointer (some ⟨r, 0, none⟩), .slice o (R.length + 1) c] w fun e w' => e = .returned (.int .i64 ((onceT T false R).1 : Int)) ∧ TD w' base r (onceT T false R).2 ∧ Below r w w' := by
  obtain ⟨b, off, rfl, hbl, hc0, hc1⟩ := tnumA (r := r) hL
  obtain ⟨hrb, hbs, vp, v0, v1, v2, ve, Q, hB, hS⟩ := hT
  have hrl := hB.lt
  match R, hc1 with
  | [], _ =>
    have e1 : onceT T false [] = (3, T) := rfl
    rw [e1]
    clear e1 hL hc0
    have HB := hide hB
    have HS := hide hS
    clear hB hS
    go_enter Tryd.func63, Tryd.ntmps63
    go_wp2_with fail
    go_ret
    exact ⟨rfl, ⟨hrb, hbs, vp, v0, v1, v2, ve, Q, HB.out, HS.out⟩, Below.refl _ _⟩
  | y :: z :: R', _ =>
    have e1 : onceT T false (y :: z :: R') = (3, T) := rfl
    rw [e1]
    have hz : ((((y :: z :: R').length + 1 : Nat) : Int) != 2) = true := by rw [bne_iff_ne]; simp; omega
    generalize (y :: z :: R').length = n at *
    clear e1 hL hc0
    have HB := hide hB
    have HS := hide hS
    clear hB hS
    go_enter Tryd.func63, Tryd.ntmps63
    go_wp2_with fail
    go_ret
    exact ⟨rfl, ⟨hrb, hbs, vp, v0, v1, v2, ve, Q, HB.out, HS.out⟩, Below.refl _ _⟩
  | [y], hc1 =>
    have hc1 := hc1 y [] rfl
    have hN := rnum_calls ⟨y.toArray⟩ w
    have e : (⟨y.toArray⟩ : ByteArray).data.toList = y := rfl
    rw [e] at hN
    clear e hL
    have HB := hide hB
    have HS := hide hS
    have HC := hide hc0
    clear hB hS hc0
    have HT : Hid (TD w base r T) := ⟨hrb, hbs, vp, v0, v1, v2, ve, Q, HB.out, HS.out⟩
    have hk : Hid (w.cell? ⟨r, 0, none⟩ = some (.int .i64 (oI T.pg))) := HB.out.cell 0
    have hf : Hid (∀ W, Below w.heap.size w W → W.frozen? ⟨r, 0, none⟩ = false) := fun W hb => (HB.out.below hb HB.out.lt).frozen 0
    by_cases he : (numV y).2 = 0
    · have hz : (((numV y).2 : Int) != 0) = false := by rw [he]; rfl
      have hnl : numL [y] = ((numV y).1, 0) := by unfold numL; dsimp only; rw [if_neg (by omega)]
      by_cases g1 : (numV y).1 < 1
      · have e1 : onceT T false [y] = (6, T) := by unfold onceT; rw [hnl]; dsimp only; rw [if_neg (by omega), if_neg (by decide), if_pos (Or.inl g1)]
        rw [e1]
        clear e1 he hnl
        go_enter Tryd.func63, Tryd.ntmps63
        go_wp2_with fail
        refine hN.mono ?_
        clear hN hc1
        rintro e w2 ⟨rfl, hb2⟩
        have hc0 : w2.cell? ⟨b, off, none⟩ = some (.string ⟨#[112, 97, 103, 101, 115]⟩) := (hb2.cell (cell_lt HC.out)).trans HC.out
        have hq : (((numV y).1 : Nat) : Int) < 1 := by omega
        go_wp2_with fail
        go_ret
        exact ⟨rfl, HT.out.low hb2, hb2.mono (Nat.le_of_lt hrl)⟩
      · by_cases g2 : 128 < (numV y).1
        · have e1 : onceT T false [y] = (6, T) := by unfold onceT; rw [hnl]; dsimp only; rw [if_neg (by omega), if_neg (by decide), if_pos (Or.inr g2)]
          rw [e1]
          clear e1 he hnl
          go_enter Tryd.func63, Tryd.ntmps63
          go_wp2_with fail
          refine hN.mono ?_
          clear hN hc1
          rintro e w2 ⟨rfl, hb2⟩
          have hc0 : w2.cell? ⟨b, off, none⟩ = some (.string ⟨#[112, 97, 103, 101, 115]⟩) := (hb2.cell (cell_lt HC.out)).trans HC.out
          have hq0 : (decide ((((numV y).1 : Nat) : Int) < 1)) = false := decide_eq_false (by omega)
          have hq : (128 : Int) < (((numV y).1 : Nat) : Int) := by omega
          go_wp2_with fail
          go_ret
          exact ⟨rfl, HT.out.low hb2, hb2.mono (Nat.le_of_lt hrl)⟩
        · cases hbd : T.pg with
          | some q =>
            rw [hbd] at hk
            have e1 : onceT T false [y] = (11, T) := by unfold onceT; rw [hnl]; dsimp only; rw [if_neg (by omega), if_neg (by decide), if_neg (by omega), hbd]; rfl
            rw [e1]
            clear e1 he hnl
            go_enter Tryd.func63, Tryd.ntmps63
            go_wp2_with fail
            refine hN.mono ?_
            clear hN hc1
            rintro e w2 ⟨rfl, hb2⟩
            have hc0 : w2.cell? ⟨b, off, none⟩ = some (.string ⟨#[112, 97, 103, 101, 115]⟩) := (hb2.cell (cell_lt HC.out)).trans HC.out
            have hk2 : w2.cell? ⟨r, 0, none⟩ = some (.int .i64 (q : Int)) := (hb2.cell (cell_lt hk.out)).trans hk.out
            have hq : (0 : Int) ≤ (q : Int) := by omega
            clear hbd
            have hq0 : (decide ((((numV y).1 : Nat) : Int) < 1)) = false := decide_eq_false (by omega)
            have hq1 : (decide ((128 : Int) < (((numV y).1 : Nat) : Int))) = false := decide_eq_false (by omega)
            clear g1 g2
            go_wp2_with fail
            go_ret
            exact ⟨rfl, HT.out.low hb2, hb2.mono (Nat.le_of_lt hrl)⟩
          | none =>
            rw [hbd] at hk
            have e1 : onceT T false [y] = (0, { T with pg := some (numV y).1 }) := by unfold onceT; rw [hnl]; dsimp only; rw [if_neg (by omega), if_neg (by decide), if_neg (by omega), hbd]; rfl
            rw [e1]
            clear e1 he hnl
            go_enter Tryd.func63, Tryd.ntmps63
            go_wp2_with fail
            refine hN.mono ?_
            clear hN hc1
            rintro e w2 ⟨rfl, hb2⟩
            have hc0 : w2.cell? ⟨b, off, none⟩ = some (.string ⟨#[112, 97, 103, 101, 115]⟩) := (hb2.cell (cell_lt HC.out)).trans HC.out
            have hk2 : w2.cell? ⟨r, 0, none⟩ = some (.int .i64 (-1)) := (hb2.cell (cell_lt hk.out)).trans hk.out
            have hfr := hf.out w2 hb2
            have hq : (decide ((0 : Int) ≤ -1)) = false := rfl
            clear hbd
            have hq0 : (decide ((((numV y).1 : Nat) : Int) < 1)) = false := decide_eq_false (by omega)
            have hq1 : (decide ((128 : Int) < (((numV y).1 : Nat) : Int))) = false := decide_eq_false (by omega)
            clear g1 g2
            go_wp2_with fail
            go_ret
            have hB2 := HB.out.below hb2 HB.out.lt
            have hS2 := HS.out.below hb2 (Nat.le_refl _)
            refine ⟨rfl, ⟨hrb, ?_, vp, v0, v1, v2, ve, Q, Blk.set_ hB2 0 _, (hS2.setCell ⟨r, 0, none⟩ hrb _).told _ rfl rfl rfl rfl rfl⟩, (hb2.mono (Nat.le_of_lt hrl)).trans (only_cell ⟨r, 0, none⟩ _ hB2.lt)⟩
            have := hb2.size
            simp only [World.setCell]
            (try simp); omega
    · have hz : (((numV y).2 : Int) != 0) = true := by rw [bne_iff_ne]; omega
      have e1 : onceT T false [y] = (3, T) := onceT_err _ (by unfold numL; dsimp only; rw [if_pos he]; decide)
      rw [e1]
      clear e1 he
      go_enter Tryd.func63, Tryd.ntmps63
      go_wp2_with fail
      refine hN.mono ?_
      clear hN hc1
      rintro e w2 ⟨rfl, hb2⟩
      have hc0 : w2.cell? ⟨b, off, none⟩ = some (.string ⟨#[112, 97, 103, 101, 115]⟩) := (hb2.cell (cell_lt HC.out)).trans HC.out
      have hn3 : True := trivial
      go_wp2_with fail
      go_ret
      exact ⟨rfl, HT.out.low hb2, hb2.mono (Nat.le_of_lt hrl)⟩
end Go.Proofs.YtdhdknjefjolpaaDoor
end
section
/-
  gannetref33.Told: bytes.
-/
namespace Go.Proofs.YtdhdknjefjolpaaDoor
set_option linter.unusedSimpArgs false
set_option linter.unusedVariables false
set_option maxRecDepth 10000
open Go.RowKit Go.Shelf Pl
theorem hd_put {W1 W2 : World} {r base : Nat} {ty : TypeId} {cs : Array Value} {row : Option Nat} (hB : Blk W1 r ty cs) (hrb : r < base) (hbs : base ≤ W1.heap.size) (hg : W1.grownBy W2 row) (hrow : ∀ k, row = some k → base ≤ k) (i : Nat) (u : Value) :
    Blk (W2.setCell ⟨r, i, none⟩ u) r ty (cs.setIfInBounds i u) ∧ Below r W1 (W2.setCell ⟨r, i, none⟩ u) ∧ W2.cell? ⟨r, i, none⟩ = cs[i]? ∧ W2.frozen? ⟨r, i, none⟩ = false ∧ base ≤ (W2.setCell ⟨r, i, none⟩ u).heap.size := by
  have h2 : Blk W2 r ty cs := hB.grown hg (fun e => by have := hrow r e.symm; omega)
  have hO := Only.setCell (S := fun k => k = r) (Only.refl _ W2) ⟨r, i, none⟩ rfl u
  refine ⟨Blk.set_ h2 i u, ?_, h2.cell i, h2.frozen i, Nat.le_trans hbs (Nat.le_trans hg.size hO.size)⟩
  exact ((Below.refl r W1).grown hg (by omega) (fun k e => by have := hrow k e; omega)).trans (only_cell ⟨r, i, none⟩ u h2.lt)
theorem own_news {w : World} {base n size g cap : Nat} {e : TypeId} {xs : List Value} (h : w.ownsRow base e size (.slice (some ⟨g, 0, none⟩) n cap) n xs) : ∀ j u, xs[j]? = some u → w.cell? ((⟨g, 0, none⟩ : Addr).add j) = some u := fun j u hu => by
  rw [Addr.add_mid, Nat.zero_add]
  exact (own_cell h hu).1
theorem nV_one (l : List Nat) : ∀ u ∈ l.map nV, u.oneCell' = true := fun u hu => by
  obtain ⟨a, _, rfl⟩ := List.mem_map.1 hu
  rfl
theorem SL.of0 {W : World} {base : Nat} {vp v0 v1 v2 ve : Value} {Q : List Pq} {T : Tl} (h : SL W base vp v0 v1 v2 ve Q T) : (∀ k, v0.ownBlock = some k → base ≤ k) ∧ (∀ k, v1.ownBlock = some k → base ≤ k) ∧ (∀ k, v2.ownBlock = some k → base ≤ k) ∧ (∀ k, ve.ownBlock = some k → base ≤ k) ∧ (∀ k, vp.ownBlock = some k → base ≤ k) :=
  ⟨fun k e => (own1_blk h.r0 e).1, fun k e => (own1_blk h.r1 e).1, fun k e => (own1_blk h.r2 e).1, fun k e => (own1_blk h.re e).1, fun k e => (own1_blk h.rp e).1⟩
-- PRINTED (told19.py)
set_option maxRecDepth 100000 in
set_option maxHeartbeats 8000000 in
theorem tfeed0 (r base c : Nat) (o : Option Addr) (R : List (List UInt8)) (T : Tl) (w : World) (hT : TD w base r T) (hbn : T.bnd 200001) (hL : WsAt w o (wVdc :: R)) (hn : R.length ≤ 200000) (hcap : R.length + 1 ≤ c) (hx : ∀ x ∈ R, x.length ≤ 200001) :
    Calls Tryd.prog 64 #[.pointer (some ⟨r, 0, none⟩), .slice o (R.length + 1) c] w fun e w' => e = .returned (.int .i64 ((feedT T 0 R).1 : Int)) ∧ TD w' base r (feedT T 0 R).2 ∧ Below r w w' := by
  obtain ⟨i0, hi, hz0, hz1, hz2⟩ := info_parts infoU8
  have hLr := hL
  obtain ⟨b, off, rfl, hbl, hc0, _⟩ := tnumA (r := r) hL
  have hdr : WsAt w (some ⟨b, off + 1, none⟩) R := hLr.drop (k := 1)
  obtain ⟨hrb, hbs, vp, v0, v1, v2, ve, Q, hB, hS⟩ := hT
  have hrl := hB.lt
  have HB := hide hB
  have HS := hide hS
  have HT : Hid (TD w base r T) := ⟨hrb, hbs, vp, v0, v1, v2, ve, Q, HB.out, HS.out⟩
  have HN := hide hbn
  clear hB hS hL hLr hbn
  have HC := hide hc0
  replace hc0 : w.cell? ⟨b, off, none⟩ = some (.string ⟨#[118, 100, 99]⟩) := hc0
  cases R with
  | nil =>
    have e1 : feedT T 0 [] = (3, T) := rfl
    rw [e1]
    clear e1
    have hN := fun o' c' => rbytes_calls o' c' [] w (fun i x h => by simp at h) (by simp) (fun x h => by simp at h)
    go_enter Tryd.func64, Tryd.ntmps64
    go_wp2_with fail
    all_goals
      refine (hN _ _).mono ?_
      rintro e w2 ⟨hb2, (⟨v, l, hl, hne, rfl, hown⟩ | ⟨hbad, rfl⟩)⟩
      · exact absurd (Option.some.inj hl).symm hne
      · clear hN
        go_wp2_with fail
        go_ret
        exact ⟨rfl, HT.out.low hb2, hb2.mono (Nat.le_of_lt hrl)⟩
  | cons y t =>
    have hN := rbytes_calls (some ⟨b, off + 1, none⟩) (c - 1) (y :: t) w hdr (by simp at hn ⊢; omega) hx
    rw [List.length_cons] at hN hn hcap ⊢
    have c1 : ¬ (1 = c) := by omega
    have c2 : ¬ (c = 1) := by omega
    clear hdr hx
    go_enter Tryd.func64, Tryd.ntmps64
    go_wp2_with fail
    refine hN.mono ?_
    clear hN
    rintro e w2 ⟨hb2, (⟨v, l, hl, hne, rfl, hown⟩ | ⟨hbad, rfl⟩)⟩
    · obtain ⟨a, l', rfl⟩ : ∃ a l', l = a :: l' := by cases l with | nil => exact absurd rfl hne | cons a l' => exact ⟨a, l', rfl⟩
      have hll := byL_len _ _ hl
      rw [List.length_cons] at hll
      have e1 : feedT T 0 (y :: t) = (0, { T with f0 := T.f0 ++ a :: l' }) := by unfold feedT; rw [hl]; rfl
      have E1 := hide e1
      obtain ⟨gb, cb, cur, rfl, _⟩ := own1_row hown (by simp)
      have hB2 : Hid (Blk w2 r 70 (tdR T vp v0 v1 v2 ve)) := HB.out.below hb2 HB.out.lt
      have hS2 : Hid (SL w2 base vp v0 v1 v2 ve Q T) := HS.out.below hb2 (Nat.le_refl _)
      have hbs2 := Nat.le_trans hbs hb2.size
      have hk : w2.cell? ⟨r, 3, none⟩ = some v0 := hB2.out.cell 3
      have hc02 : w2.cell? ⟨b, off, none⟩ = some (.string ⟨#[118, 100, 99]⟩) := (hb2.cell (cell_lt HC.out)).trans HC.out
      have hfl := HN.out.a0
      have HO := hide hown
      have hqb : (a :: l').length ≤ 200001 := by rw [List.length_cons, hll, List.length_cons]; omega
      have hfz := hB2.out.frozen 3
      clear e1 hl hne hown hc0 hll
      generalize hql : (a :: l').length = ql at *
      go_wp2_with (at_builtin; refine wpList_append_lies _ rfl _ _ 22 rfl base 5 i0 (.int .u8 0) 1 1 Tryd.underlying22 hi hz0 hz1 hz2 rfl (by decide) v0 T.f0.length (T.f0.map nV) rfl hS2.out.r0 ⟨gb, 0, none⟩ ql cb ((a :: l').map nV) rfl (by rw [List.length_map]; omega) (own_news HO.out) (nV_one _) (by rw [← hql]; simp) (by unfold maxLen; omega) (by omega) hbs2 w2.heap.size rfl ?_; intro g cap w3 q1 q2 q3 q4; obtain ⟨p1, p2, p3, p4, p5⟩ := hd_put hB2.out hrb hbs2 q2 hS2.out.of0.1 3 (.slice (some ⟨g, 0, none⟩) (T.f0.length + ql) cap); replace p3 : w3.cell? ⟨r, 3, none⟩ = some v0 := p3)
      go_ret
      rw [E1.out]
      subst hql
      exact ⟨rfl, ⟨hrb, p5, vp, _, v1, v2, ve, Q, p1, (SL.feed0 hS2.out q1 q2 q3).setCell ⟨r, 3, none⟩ hrb _⟩, (hb2.mono (Nat.le_of_lt hrl)).trans p2⟩
    · have e1 : feedT T 0 (y :: t) = (3, T) := by
        unfold feedT
        cases hq : byL (y :: t) with
        | none => rfl
        | some l => rw [hbad l hq]
      have E1 := hide e1
      clear e1 hbad
      go_wp2_with fail
      go_ret
      rw [E1.out]
      exact ⟨rfl, HT.out.low hb2, hb2.mono (Nat.le_of_lt hrl)⟩
set_option maxRecDepth 100000 in
set_option maxHeartbeats 8000000 in
theorem tfeed1 (r base c : Nat) (o : Option Addr) (R : List (List UInt8)) (T : Tl) (w : World) (hT : TD w base r T) (hbn : T.bnd 200001) (hL : WsAt w o (wVce :: R)) (hn : R.length ≤ 200000) (hcap : R.length + 1 ≤ c) (hx : ∀ x ∈ R, x.length ≤ 200001) :
    Calls Tryd.prog 64 #[.pointer (some ⟨r, 0, none⟩), .slice o (R.length + 1) c] w fun e w' => e = .returned (.int .i64 ((feedT T 1 R).1 : Int)) ∧ TD w' base r (feedT T 1 R).2 ∧ Below r w w' := by
  obtain ⟨i0, hi, hz0, hz1, hz2⟩ := info_parts infoU8
  have hLr := hL
  obtain ⟨b, off, rfl, hbl, hc0, _⟩ := tnumA (r := r) hL
  have hdr : WsAt w (some ⟨b, off + 1, none⟩) R := hLr.drop (k := 1)
  obtain ⟨hrb, hbs, vp, v0, v1, v2, ve, Q, hB, hS⟩ := hT
  have hrl := hB.lt
  have HB := hide hB
  have HS := hide hS
  have HT : Hid (TD w base r T) := ⟨hrb, hbs, vp, v0, v1, v2, ve, Q, HB.out, HS.out⟩
  have HN := hide hbn
  clear hB hS hL hLr hbn
  have HC := hide hc0
  replace hc0 : w.cell? ⟨b, off, none⟩ = some (.string ⟨#[118, 99, 101]⟩) := hc0
  cases R with
  | nil =>
    have e1 : feedT T 1 [] = (3, T) := rfl
    rw [e1]
    clear e1
    have hN := fun o' c' => rbytes_calls o' c' [] w (fun i x h => by simp at h) (by simp) (fun x h => by simp at h)
    go_enter Tryd.func64, Tryd.ntmps64
    go_wp2_with fail
    all_goals
      refine (hN _ _).mono ?_
      rintro e w2 ⟨hb2, (⟨v, l, hl, hne, rfl, hown⟩ | ⟨hbad, rfl⟩)⟩
      · exact absurd (Option.some.inj hl).symm hne
      · clear hN
        go_wp2_with fail
        go_ret
        exact ⟨rfl, HT.out.low hb2, hb2.mono (Nat.le_of_lt hrl)⟩
  | cons y t =>
    have hN := rbytes_calls (some ⟨b, off + 1, none⟩) (c - 1) (y :: t) w hdr (by simp at hn ⊢; omega) hx
    rw [List.length_cons] at hN hn hcap ⊢
    have c1 : ¬ (1 = c) := by omega
    have c2 : ¬ (c = 1) := by omega
    clear hdr hx
    go_enter Tryd.func64, Tryd.ntmps64
    go_wp2_with fail
    refine hN.mono ?_
    clear hN
    rintro e w2 ⟨hb2, (⟨v, l, hl, hne, rfl, hown⟩ | ⟨hbad, rfl⟩)⟩
    · obtain ⟨a, l', rfl⟩ : ∃ a l', l = a :: l' := by cases l with | nil => exact absurd rfl hne | cons a l' => exact ⟨a, l', rfl⟩
      have hll := byL_len _ _ hl
      rw [List.length_cons] at hll
      have e1 : feedT T 1 (y :: t) = (0, { T with f1 := T.f1 ++ a :: l' }) := by unfold feedT; rw [hl]; rfl
      have E1 := hide e1
      obtain ⟨gb, cb, cur, rfl, _⟩ := own1_row hown (by simp)
      have hB2 : Hid (Blk w2 r 70 (tdR T vp v0 v1 v2 ve)) := HB.out.below hb2 HB.out.lt
      have hS2 : Hid (SL w2 base vp v0 v1 v2 ve Q T) := HS.out.below hb2 (Nat.le_refl _)
      have hbs2 := Nat.le_trans hbs hb2.size
      have hk : w2.cell? ⟨r, 4, none⟩ = some v1 := hB2.out.cell 4
      have hc02 : w2.cell? ⟨b, off, none⟩ = some (.string ⟨#[118, 99, 101]⟩) := (hb2.cell (cell_lt HC.out)).trans HC.out
      have hfl := HN.out.a1
      have HO := hide hown
      have hqb : (a :: l').length ≤ 200001 := by rw [List.length_cons, hll, List.length_cons]; omega
      have hfz := hB2.out.frozen 4
      clear e1 hl hne hown hc0 hll
      generalize hql : (a :: l').length = ql at *
      go_wp2_with (at_builtin; refine wpList_append_lies _ rfl _ _ 22 rfl base 5 i0 (.int .u8 0) 1 1 Tryd.underlying22 hi hz0 hz1 hz2 rfl (by decide) v1 T.f1.length (T.f1.map nV) rfl hS2.out.r1 ⟨gb, 0, none⟩ ql cb ((a :: l').map nV) rfl (by rw [List.length_map]; omega) (own_news HO.out) (nV_one _) (by rw [← hql]; simp) (by unfold maxLen; omega) (by omega) hbs2 w2.heap.size rfl ?_; intro g cap w3 q1 q2 q3 q4; obtain ⟨p1, p2, p3, p4, p5⟩ := hd_put hB2.out hrb hbs2 q2 hS2.out.of0.2.1 4 (.slice (some ⟨g, 0, none⟩) (T.f1.length + ql) cap); replace p3 : w3.cell? ⟨r, 4, none⟩ = some v1 := p3)
      go_ret
      rw [E1.out]
      subst hql
      exact ⟨rfl, ⟨hrb, p5, vp, v0, _, v2, ve, Q, p1, (SL.feed1 hS2.out q1 q2 q3).setCell ⟨r, 4, none⟩ hrb _⟩, (hb2.mono (Nat.le_of_lt hrl)).trans p2⟩
    · have e1 : feedT T 1 (y :: t) = (3, T) := by
        unfold feedT
        cases hq : byL (y :: t) with
        | none => rfl
        | some l => rw [hbad l hq]
      have E1 := hide e1
      clear e1 hbad
      go_wp2_with fail
      go_ret
      rw [E1.out]
      exact ⟨rfl, HT.out.low hb2, hb2.mono (Nat.le_of_lt hrl)⟩
set_option maxRecDepth 100000 in
set_option maxHeartbeats 8000000 in
theorem tfeed2 (r base c : Nat) (o : Option Addr) (R : List (List UInt8)) (T : Tl) (w : World) (hT : TD w base r T) (hbn : T.bnd 200001) (hL : WsAt w o (wPort :: R)) (hn : R.length ≤ 200000) (hcap : R.length + 1 ≤ c) (hx : ∀ x ∈ R, x.length ≤ 200001) :
    Calls Tryd.prog 64 #[.pointer (some ⟨r, 0, none⟩), .slice o (R.length + 1) c] w fun e w' => e = .returned (.int .i64 ((feedT T 2 R).1 : Int)) ∧ TD w' base r (feedT T 2 R).2 ∧ Below r w w' := by
  obtain ⟨i0, hi, hz0, hz1, hz2⟩ := info_parts infoU8
  have hLr := hL
  obtain ⟨b, off, rfl, hbl, hc0, _⟩ := tnumA (r := r) hL
  have hdr : WsAt w (some ⟨b, off + 1, none⟩) R := hLr.drop (k := 1)
  obtain ⟨hrb, hbs, vp, v0, v1, v2, ve, Q, hB, hS⟩ := hT
  have hrl := hB.lt
  have HB := hide hB
  have HS := hide hS
  have HT : Hid (TD w base r T) := ⟨hrb, hbs, vp, v0, v1, v2, ve, Q, HB.out, HS.out⟩
  have HN := hide hbn
  clear hB hS hL hLr hbn
  have HC := hide hc0
  replace hc0 : w.cell? ⟨b, off, none⟩ = some (.string ⟨#[112, 111, 114, 116]⟩) := hc0
  cases R with
  | nil =>
    have e1 : feedT T 2 [] = (3, T) := rfl
    rw [e1]
    clear e1
    have hN := fun o' c' => rbytes_calls o' c' [] w (fun i x h => by simp at h) (by simp) (fun x h => by simp at h)
    go_enter Tryd.func64, Tryd.ntmps64
    go_wp2_with fail
    all_goals
      refine (hN _ _).mono ?_
      rintro e w2 ⟨hb2, (⟨v, l, hl, hne, rfl, hown⟩ | ⟨hbad, rfl⟩)⟩
      · exact absurd (Option.some.inj hl).symm hne
      · clear hN
        go_wp2_with fail
        go_ret
        exact ⟨rfl, HT.out.low hb2, hb2.mono (Nat.le_of_lt hrl)⟩
  | cons y t =>
    have hN := rbytes_calls (some ⟨b, off + 1, none⟩) (c - 1) (y :: t) w hdr (by simp at hn ⊢; omega) hx
    rw [List.length_cons] at hN hn hcap ⊢
    have c1 : ¬ (1 = c) := by omega
    have c2 : ¬ (c = 1) := by omega
    clear hdr hx
    go_enter Tryd.func64, Tryd.ntmps64
    go_wp2_with fail
    refine hN.mono ?_
    clear hN
    rintro e w2 ⟨hb2, (⟨v, l, hl, hne, rfl, hown⟩ | ⟨hbad, rfl⟩)⟩
    · obtain ⟨a, l', rfl⟩ : ∃ a l', l = a :: l' := by cases l with | nil => exact absurd rfl hne | cons a l' => exact ⟨a, l', rfl⟩
      have hll := byL_len _ _ hl
      rw [List.length_cons] at hll
      have e1 : feedT T 2 (y :: t) = (0, { T with f2 := T.f2 ++ a :: l' }) := by unfold feedT; rw [hl]; rfl
      have E1 := hide e1
      obtain ⟨gb, cb, cur, rfl, _⟩ := own1_row hown (by simp)
      have hB2 : Hid (Blk w2 r 70 (tdR T vp v0 v1 v2 ve)) := HB.out.below hb2 HB.out.lt
      have hS2 : Hid (SL w2 base vp v0 v1 v2 ve Q T) := HS.out.below hb2 (Nat.le_refl _)
      have hbs2 := Nat.le_trans hbs hb2.size
      have hk : w2.cell? ⟨r, 5, none⟩ = some v2 := hB2.out.cell 5
      have hc02 : w2.cell? ⟨b, off, none⟩ = some (.string ⟨#[112, 111, 114, 116]⟩) := (hb2.cell (cell_lt HC.out)).trans HC.out
      have hfl := HN.out.a2
      have HO := hide hown
      have hqb : (a :: l').length ≤ 200001 := by rw [List.length_cons, hll, List.length_cons]; omega
      have hfz := hB2.out.frozen 5
      clear e1 hl hne hown hc0 hll
      generalize hql : (a :: l').length = ql at *
      go_wp2_with (at_builtin; refine wpList_append_lies _ rfl _ _ 22 rfl base 5 i0 (.int .u8 0) 1 1 Tryd.underlying22 hi hz0 hz1 hz2 rfl (by decide) v2 T.f2.length (T.f2.map nV) rfl hS2.out.r2 ⟨gb, 0, none⟩ ql cb ((a :: l').map nV) rfl (by rw [List.length_map]; omega) (own_news HO.out) (nV_one _) (by rw [← hql]; simp) (by unfold maxLen; omega) (by omega) hbs2 w2.heap.size rfl ?_; intro g cap w3 q1 q2 q3 q4; obtain ⟨p1, p2, p3, p4, p5⟩ := hd_put hB2.out hrb hbs2 q2 hS2.out.of0.2.2.1 5 (.slice (some ⟨g, 0, none⟩) (T.f2.length + ql) cap); replace p3 : w3.cell? ⟨r, 5, none⟩ = some v2 := p3)
      go_ret
      rw [E1.out]
      subst hql
      exact ⟨rfl, ⟨hrb, p5, vp, v0, v1, _, ve, Q, p1, (SL.feed2 hS2.out q1 q2 q3).setCell ⟨r, 5, none⟩ hrb _⟩, (hb2.mono (Nat.le_of_lt hrl)).trans p2⟩
    · have e1 : feedT T 2 (y :: t) = (3, T) := by
        unfold feedT
        cases hq : byL (y :: t) with
        | none => rfl
        | some l => rw [hbad l hq]
      have E1 := hide e1
      clear e1 hbad
      go_wp2_with fail
      go_ret
      rw [E1.out]
      exact ⟨rfl, HT.out.low hb2, hb2.mono (Nat.le_of_lt hrl)⟩
end Go.Proofs.YtdhdknjefjolpaaDoor
end
section
/-
  gannetref33.Told: bytes of an image.
-/
namespace Go.Proofs.YtdhdknjefjolpaaDoor
set_option linter.unusedSimpArgs false
set_option linter.unusedVariables false
set_option maxRecDepth 10000
open Go.RowKit Go.Shelf Pl
theorem fh_lt (a : List UInt8) : (fh a).1 < 4294967296 := by
  unfold fh
  split
  · decide
  · split
    · decide
    · rename_i h1 h2
      cases e : hfold a 0 with
      | none => exact (by decide)
      | some n =>
        have h := hfold_lt a 0 n e
        have h3 : 16 ^ a.length ≤ 16 ^ 8 := Nat.pow_le_pow_right (by decide) (by omega)
        have : (16 : Nat) ^ 8 = 4294967296 := by decide
        show n < _
        omega
theorem romT_bad {T : Tl} {a x : List UInt8} {t : List (List UInt8)} (h : ¬ (a.length = 6 ∧ (fh a).2 = 0)) : romT T (a :: x :: t) = (3, T) := by unfold romT; dsimp only; rw [if_neg h]
theorem romT_none {T : Tl} {a x : List UInt8} {t : List (List UInt8)} (hb : ∀ l, byL (x :: t) = some l → l = []) : romT T (a :: x :: t) = (3, T) := by
  have h0 : byL (x :: t) = none := by
    cases hq : byL (x :: t) with
    | none => rfl
    | some l =>
      have := byL_len _ _ hq
      rw [hb l hq] at this
      simp at this
  unfold romT
  dsimp only
  rw [h0]
  split <;> rfl
theorem romT_ok {T : Tl} {a x : List UInt8} {t : List (List UInt8)} {l : List Nat} (h6 : a.length = 6) (h0 : (fh a).2 = 0) (hb : byL (x :: t) = some l) : romT T (a :: x :: t) = (0, { T with ps := T.ps ++ [((fh a).1, l)] }) := by
  unfold romT
  dsimp only
  rw [if_pos ⟨h6, h0⟩, hb]
theorem own_fresh {W W2 : World} {base n size n2 : Nat} {e : TypeId} {v : Value} {xs xs2 : List Value} {gb m cb : Nat} {e2 : TypeId} (h : W.ownsRow base e size v n xs) (h2 : W2.ownsRow W.heap.size e2 size (.slice (some ⟨gb, 0, none⟩) m cb) n2 xs2) : v.ownBlock ≠ some gb := fun hx => by
  have h3 := own1_lt h hx
  have h4 := (own1_blk h2 (g := gb) rfl).1
  omega
set_option maxRecDepth 100000 in
set_option maxHeartbeats 8000000 in
theorem trom_calls (r base c : Nat) (o : Option Addr) (R : List (List UInt8)) (T : Tl) (w : World) (hT : TD w base r T) (hbn : T.bnd 200001) (hL : WsAt w o (wRom :: R)) (hn : R.length ≤ 200000) (hcap : R.length + 1 ≤ c) (hx : ∀ x ∈ R, x.length ≤ 200001) :
    Calls Tryd.prog 64 #[.pointer (some ⟨r, 0, none⟩), .slice o (R.length + 1) c] w fun e w' => e = .returned (.int .i64 ((romT T R).1 : Int)) ∧ TD w' base r (romT T R).2 ∧ Below r w w' := by
  obtain ⟨i1, hi, hz0, hz1, hz2⟩ := info_parts infoPie
  have hLr := hL
  obtain ⟨b, off, rfl, hbl, hc0, hc1⟩ := tnumA (r := r) hL
  obtain ⟨hrb, hbs, vp, v0, v1, v2, ve, Q, hB, hS⟩ := hT
  have hrl := hB.lt
  have HB := hide hB
  have HS := hide hS
  have HT : Hid (TD w base r T) := ⟨hrb, hbs, vp, v0, v1, v2, ve, Q, HB.out, HS.out⟩
  have HN := hide hbn
  clear hB hS hL hbn
  replace hc0 : w.cell? ⟨b, off, none⟩ = some (.string ⟨#[114, 111, 109]⟩) := hc0
  match R, hc1 with
  | [], _ =>
    have e1 : romT T [] = (3, T) := rfl
    rw [e1]
    clear e1 hLr
    go_enter Tryd.func64, Tryd.ntmps64
    go_wp2_with fail
    go_ret
    exact ⟨rfl, HT.out, Below.refl _ _⟩
  | [a], _ =>
    have e1 : romT T [a] = (3, T) := rfl
    rw [e1]
    clear e1 hLr
    go_enter Tryd.func64, Tryd.ntmps64
    go_wp2_with fail
    go_ret
    exact ⟨rfl, HT.out, Below.refl _ _⟩
  | a :: x :: t, hc1 =>
    have hc1 := hc1 a (x :: t) rfl
    have hdr : WsAt w (some ⟨b, off + 2, none⟩) (x :: t) := hLr.drop (k := 2)
    have hsz := strS a
    have hal : a.length ≤ 200001 := hx a (by simp)
    have hxt : ∀ y ∈ x :: t, y.length ≤ 200001 := fun y hy => hx y (by simp at hy ⊢; exact Or.inr hy)
    rw [List.length_cons, List.length_cons] at hcap hn ⊢
    clear hLr hx
    have n3 : (decide (((t.length + 1 + 1 + 1 : Nat) : Int) < 3)) = false := decide_eq_false (by omega)
    by_cases h6 : a.length = 6
    · have h66 : ((a.length : Int) != 6) = false := by rw [h6]; rfl
      have hF := rfh_calls a w hal
      have c1 : ¬ (2 = c) := by omega
      have c2 : ¬ (c = 2) := by omega
      have H6 := hide h6
      clear h6
      go_enter Tryd.func64, Tryd.ntmps64
      go_wp2_with fail
      refine hF.mono ?_
      rintro e w2 ⟨rfl, hb2⟩
      have hN := rbytes_calls (some ⟨b, off + 2, none⟩) (c - 2) (x :: t) w2 (hdr.low hb2) (by simp at hn ⊢; omega) hxt
      rw [List.length_cons] at hN
      clear hF hdr hxt
      have hfl := fh_lt a
      have hw : IntKind.i64.wrap ((fh a).1 : Int) = ((fh a).1 : Int) := by rw [IntKind.wrap_i64]; omega
      unfold fhV
      go_wp2_with fail
      refine hN.mono ?_
      clear hN
      rintro e w3 ⟨hb3, (⟨v, l, hl, hne, rfl, hown⟩ | ⟨hbad, rfl⟩)⟩
      · by_cases he : (fh a).2 = 0
        · have hz : (((fh a).2 : Int) != 0) = false := by rw [he]; rfl
          have E1 := hide (romT_ok (T := T) H6.out he hl)
          obtain ⟨gb, cb, cur, rfl, _⟩ := own1_row hown (by cases l with | nil => exact absurd rfl hne | cons a l' => simp)
          have hS2 : SL w2 base vp v0 v1 v2 ve Q T := HS.out.below hb2 (Nat.le_refl _)
          have d0 : Hid (v0.ownBlock ≠ some gb) := own_fresh hS2.r0 hown
          have d1 : Hid (v1.ownBlock ≠ some gb) := own_fresh hS2.r1 hown
          have d2 : Hid (v2.ownBlock ≠ some gb) := own_fresh hS2.r2 hown
          have hb23 := hb2.trans (hb3.mono hb2.size)
          have hB3 : Hid (Blk w3 r 70 (tdR T vp v0 v1 v2 ve)) := HB.out.below hb23 HB.out.lt
          have hS3 : Hid (SL w3 base vp v0 v1 v2 ve Q T) := HS.out.below hb23 (Nat.le_refl _)
          have hbs3 := Nat.le_trans hbs hb23.size
          have hk : w3.cell? ⟨r, 2, none⟩ = some vp := hB3.out.cell 2
          have hfz := hB3.out.frozen 2
          have hql0 : Hid (Q.length ≤ 200001) := by
            have h := HN.out.ap
            rw [HS.out.ps, List.length_map] at h
            exact h
          have hQ := hql0.out
          have HO := hide hown
          clear he hl hne hown hS2 hc0 hc1
          obtain ⟨ql, hql⟩ : ∃ ql, l.length = ql := ⟨_, rfl⟩
          rw [hql] at HO ⊢
          have hB4 : Hid (Blk (w3.alloc (.cells #[Value.int .i64 ((fh a).1 : Int), Value.slice (some ⟨gb, 0, none⟩) ql cb] 88)) r 70 (tdR T vp v0 v1 v2 ve)) := hB3.out.alloc _
          have hS4 : Hid (SL (w3.alloc (.cells #[Value.int .i64 ((fh a).1 : Int), Value.slice (some ⟨gb, 0, none⟩) ql cb] 88)) base vp v0 v1 v2 ve Q T) := hS3.out.below (Bl.alloc (Below.refl _ _) _) (Nat.le_refl _)
          have hbs4 : base ≤ (w3.alloc (.cells #[Value.int .i64 ((fh a).1 : Int), Value.slice (some ⟨gb, 0, none⟩) ql cb] 88)).heap.size := by simp; omega
          have HQ := hide hql
          clear hql
          go_wp2_with (at_builtin; refine wpList_append_lies _ rfl _ _ 61 rfl base 88 i1 (.agg #[.int .i64 0, .slice none 0 0]) 2 32 Tryd.underlying61 hi hz0 hz1 hz2 rfl (by decide) vp Q.length (psC Q) rfl hS4.out.rp ⟨w3.heap.size, 0, none⟩ 1 1 [Value.int .i64 ((fh a).1 : Int), Value.slice (some ⟨gb, 0, none⟩) ql cb] rfl rfl (World.news_of_block (cs := #[Value.int .i64 ((fh a).1 : Int), Value.slice (some ⟨gb, 0, none⟩) ql cb]) (t := 88) (fr := (0, 0)) (heap_alloc_new w3 _)) (by simp [Value.oneCell']) (by decide) (by unfold maxLen; omega) (by omega) hbs4 _ rfl ?_; intro g cap w4 q1 q2 q3 q4; obtain ⟨p1, p2, p3, p4, p5⟩ := hd_put hB4.out hrb hbs4 q2 hS4.out.of0.2.2.2.2 2 (.slice (some ⟨g, 0, none⟩) (Q.length + 1) cap); replace p3 : w4.cell? ⟨r, 2, none⟩ = some vp := p3)
          go_ret
          rw [E1.out]
          obtain rfl := HQ.out
          refine ⟨rfl, ⟨hrb, p5, _, v0, v1, v2, ve, Q ++ [⟨(fh a).1, l, gb, cb⟩], p1, (SL.piece (q := ⟨(fh a).1, l, gb, cb⟩) hS4.out (World.ownsRow.alloc (own_base HO.out (Nat.le_trans hbs hb2.size)) _) d0.out d1.out d2.out q1 q2).setCell ⟨r, 2, none⟩ hrb _⟩, ?_⟩
          exact ((hb23.mono (Nat.le_of_lt hrl)).trans ((Bl.alloc (Below.refl _ _) _).mono (by omega))).trans p2
        · have hz : (((fh a).2 : Int) != 0) = true := by rw [bne_iff_ne]; omega
          have E1 := hide (romT_bad (T := T) (x := x) (t := t) (fun h => he h.2))
          clear he hl hne hown
          go_wp2_with fail
          go_ret
          rw [E1.out]
          exact ⟨rfl, (HT.out.low hb2).low hb3, (hb2.trans (hb3.mono hb2.size)).mono (Nat.le_of_lt hrl)⟩
      · have E1 := hide (romT_none (T := T) (a := a) hbad)
        clear hbad
        by_cases he : (fh a).2 = 0
        · have hz : (((fh a).2 : Int) != 0) = false := by rw [he]; rfl
          clear he
          go_wp2_with fail
          go_ret
          rw [E1.out]
          exact ⟨rfl, (HT.out.low hb2).low hb3, (hb2.trans (hb3.mono hb2.size)).mono (Nat.le_of_lt hrl)⟩
        · have hz : (((fh a).2 : Int) != 0) = true := by rw [bne_iff_ne]; omega
          clear he
          go_wp2_with fail
          go_ret
          rw [E1.out]
          exact ⟨rfl, (HT.out.low hb2).low hb3, (hb2.trans (hb3.mono hb2.size)).mono (Nat.le_of_lt hrl)⟩
    · have h66 : ((a.length : Int) != 6) = true := by rw [bne_iff_ne]; omega
      have E1 := hide (romT_bad (T := T) (x := x) (t := t) (fun h => h6 h.1))
      clear h6
      go_enter Tryd.func64, Tryd.ntmps64
      go_wp2_with fail
      go_ret
      rw [E1.out]
      exact ⟨rfl, HT.out, Below.refl _ _⟩
end Go.Proofs.YtdhdknjefjolpaaDoor
end
section
/-
  gannetref33.Told: edge.
-/
namespace Go.Proofs.YtdhdknjefjolpaaDoor
set_option linter.unusedSimpArgs false
set_option linter.unusedVariables false
set_option maxRecDepth 10000
open Go.RowKit Go.Shelf Pl
def nmF : Nat → List UInt8 | 0 => wReset | 1 => wNmi | 2 => wIrq1 | _ => wIrq2
theorem lineK_some {b : List UInt8} {k : Nat} (hk : k < 4) (h : nmF k = b) (hj : ∀ j, j < k → nmF j ≠ b) : lineK b = some k := by
  subst h
  match k, hk with
  | 0, _ => rfl
  | 1, _ => rfl
  | 2, _ => rfl
  | 3, _ => rfl
theorem lineK_none {b : List UInt8} (hj : ∀ j, j < 4 → nmF j ≠ b) : lineK b = none := by
  unfold lineK
  rw [if_neg (fun e => hj 0 (by decide) e.symm), if_neg (fun e => hj 1 (by decide) e.symm), if_neg (fun e => hj 2 (by decide) e.symm), if_neg (fun e => hj 3 (by decide) e.symm)]
theorem edgeT_num {T : Tl} {up : Bool} {a b : List UInt8} (h : (numV a).2 ≠ 0) : edgeT T up [a, b] = (3, T) := by unfold edgeT; dsimp only; rw [if_pos h]
theorem edgeT_ok {T : Tl} {up : Bool} {a b : List UInt8} {k : Nat} (h : (numV a).2 = 0) (hk : lineK b = some k) : edgeT T up [a, b] = (0, { T with ed := T.ed ++ [((numV a).1, k, up)] }) := by unfold edgeT; dsimp only; rw [if_neg (by omega), hk]
theorem edgeT_no {T : Tl} {up : Bool} {a b : List UInt8} (h : (numV a).2 = 0) (hk : lineK b = none) : edgeT T up [a, b] = (8, T) := by unfold edgeT; dsimp only; rw [if_neg (by omega), hk]
set_option maxRecDepth 100000 in
set_option maxHeartbeats 8000000 in
theorem tedge_calls (r base c : Nat) (o : Option Addr) (up : Bool) (R : List (List UInt8)) (T : Tl) (w : World) (hT : TD w base r T) (hbn : T.bnd 200001) (hL : WsAt w o ((if up then wUp else wDown) :: R)) :
    Calls Tryd.prog 65 #[.pointer (some ⟨r, 0, none⟩), .slice o (R.length + 1) c] w fun e w' => e = .returned (.int .i64 ((edgeT T up R).1 : Int)) ∧ TD w' base r (edgeT T up R).2 ∧ Below r w w' := by
  obtain ⟨i1, hi, hz0, hz1, hz2⟩ := info_parts infoEd
  have hLr := hL
  obtain ⟨b, off, rfl, hbl, hc0, hc1⟩ := tnumA (r := r) hL
  obtain ⟨hrb, hbs, vp, s0, s1, s2, ve, Q, hB, hS⟩ := hT
  have hrl := hB.lt
  have HB := hide hB
  have HS := hide hS
  have HT : Hid (TD w base r T) := ⟨hrb, hbs, vp, s0, s1, s2, ve, Q, HB.out, HS.out⟩
  have HN := hide hbn
  have HC := hide hc0
  obtain ⟨hd, hhd⟩ : ∃ hd, (if up = true then wUp else wDown) = hd := ⟨_, rfl⟩
  rw [hhd] at HC
  have hup : Hid ((hd == [117, 112]) = up) := by rw [← hhd]; cases up <;> rfl
  clear hB hS hL hbn hc0 hhd
  by_cases h2 : R.length = 2
  · obtain ⟨x, y, rfl⟩ : ∃ x y, R = [x, y] := by
      match R, h2 with
      | [x, y], _ => exact ⟨x, y, rfl⟩
    have hx := hc1 x [y] rfl
    have hy : w.cell? ⟨b, off + 2, none⟩ = some (.string ⟨y.toArray⟩) := by
      obtain ⟨b', off', e, _, h⟩ := hLr 2 y rfl
      cases e
      exact h
    have hN := rnum_calls ⟨x.toArray⟩ w
    have e : (⟨x.toArray⟩ : ByteArray).data.toList = x := rfl
    rw [e] at hN
    have HY := hide hy
    clear e hLr hc1 h2 hy
    by_cases he : (numV x).2 = 0
    · have hz : (((numV x).2 : Int) != 0) = false := by rw [he]; rfl
      have HE := hide he
      clear he
      go_enter Tryd.func65, Tryd.ntmps65
      go_wp2_with fail
      refine hN.mono ?_
      clear hN hx
      rintro e w2 ⟨rfl, hb2⟩
      have hNb : Blk (w2.alloc (.cells #[.string ⟨#[]⟩, .string ⟨#[]⟩, .string ⟨#[]⟩, .string ⟨#[]⟩] 99)) w2.heap.size 99 #[.string ⟨#[]⟩, .string ⟨#[]⟩, .string ⟨#[]⟩, .string ⟨#[]⟩] := Blk.new _ _ _
      have sR := setRow_new w2 #[.string ⟨#[]⟩, .string ⟨#[]⟩, .string ⟨#[]⟩, .string ⟨#[]⟩] #[Value.string ⟨#[114, 101, 115, 101, 116]⟩, .string ⟨#[110, 109, 105]⟩, .string ⟨#[105, 114, 113, 49]⟩, .string ⟨#[105, 114, 113, 50]⟩] 99
      go_wp2_with (first | (refine wpList_store_row rfl 99 _ _ rfl w2.heap.size #[Value.string ⟨#[114, 101, 115, 101, 116]⟩, .string ⟨#[110, 109, 105]⟩, .string ⟨#[105, 114, 113, 49]⟩, .string ⟨#[105, 114, 113, 50]⟩] rfl rfl 99 _ hNb (by kernel_rfl) rfl (by kernel_rfl) ?_; rw [sR]))
      have hb3 : Below w.heap.size w (w2.alloc (.cells #[Value.string ⟨#[114, 101, 115, 101, 116]⟩, .string ⟨#[110, 109, 105]⟩, .string ⟨#[105, 114, 113, 49]⟩, .string ⟨#[105, 114, 113, 50]⟩] 99)) := hb2.trans ((Bl.alloc (Below.refl _ _) _).mono hb2.size)
      have hG : Blk (w2.alloc (.cells #[Value.string ⟨#[114, 101, 115, 101, 116]⟩, .string ⟨#[110, 109, 105]⟩, .string ⟨#[105, 114, 113, 49]⟩, .string ⟨#[105, 114, 113, 50]⟩] 99)) w2.heap.size 99 #[Value.string ⟨#[114, 101, 115, 101, 116]⟩, .string ⟨#[110, 109, 105]⟩, .string ⟨#[105, 114, 113, 49]⟩, .string ⟨#[105, 114, 113, 50]⟩] := Blk.new _ _ _
      clear hNb sR
      generalize w2.alloc (.cells #[Value.string ⟨#[114, 101, 115, 101, 116]⟩, .string ⟨#[110, 109, 105]⟩, .string ⟨#[105, 114, 113, 49]⟩, .string ⟨#[105, 114, 113, 50]⟩] 99) = w3 at *
      generalize w2.heap.size = gn at *
      clear hb2
      have HG := hide hG
      have H3 := hide hb3
      clear hG hb3
      go_loopw [8] (fun v8 wr => ∃ k : Nat, k ≤ 4 ∧ v8 = .int .i64 (k : Int) ∧ Hid (∀ j, j < k → nmF j ≠ y) ∧ Hid (Below w3.heap.size w3 wr)) (fun v8 _ => 4 - (intOf v8).toNat)
      case atStart => exact ⟨0, by omega, rfl, fun j h => by omega, Below.refl _ _⟩
      case round =>
        obtain ⟨k, hk, rfl, hj, hbr⟩ := hrel
        rcases Nat.lt_or_ge k 4 with hlt | hge
        · have hbw := hbr.out
          have hGr : Blk wr gn 99 #[Value.string ⟨#[114, 101, 115, 101, 116]⟩, .string ⟨#[110, 109, 105]⟩, .string ⟨#[105, 114, 113, 49]⟩, .string ⟨#[105, 114, 113, 50]⟩] := HG.out.below hbw HG.out.lt
          have z1 : wr.cell? ⟨gn, k, none⟩ = some (.string ⟨(nmF k).toArray⟩) := by
            rw [hGr.cell k]
            match k, hlt with
            | 0, _ => rfl
            | 1, _ => rfl
            | 2, _ => rfl
            | 3, _ => rfl
          have h0r : Hid (Below w.heap.size w wr) := H3.out.trans (hbw.mono H3.out.size)
          have z2 : wr.cell? ⟨b, off + 2, none⟩ = some (.string ⟨y.toArray⟩) := (h0r.out.cell (cell_lt HY.out)).trans HY.out
          have k1 : (k : Int) < 4 := by omega
          clear hGr h0r hbr
          by_cases hq : nmF k = y
          · have hqb : (nmF k == y) = true := beq_iff_eq.2 hq
            have E1 := hide (edgeT_ok (T := T) (up := up) HE.out (lineK_some hlt hq hj.out))
            clear hq
            go_wp2_with fail
            refine wp_region_held_drew (S := fun W => W.cell? ⟨gn, k, none⟩ = some (.string ⟨(nmF k).toArray⟩) ∧ W.cell? ⟨b, off + 2, none⟩ = some (.string ⟨y.toArray⟩) ∧ Below w3.heap.size w3 W) (by kernel_rfl) ⟨(by first | exact z1.drew | exact z1 | exact Below.drew z1), (by first | exact z2.drew | exact z2 | exact Below.drew z2), (by first | exact hbw.drew | exact hbw | exact Below.drew hbw)⟩ (fun hS0 => ?_)
            clear z1 z2 hbw
            change wpAnyH _ _ _ _ _ 7 #[false, false, false, false, false, false, false] _ _
            generalize wr.drew = v0 at *
            refine wpAnyH_take (i := 0) (v := ?_) rfl (by kernel_rfl) (by kernel_rfl) (by kernel_rfl) (fun _ _ _ h => h) (Or.inl ⟨by rfl, ?_⟩) hS0 ?_
            rotate_left
            · (intro w hSw; (try dsimp only at hSw); go_simp; try with_reducible rfl)
            simp only [List.getElem_toArray, List.getElem_cons_zero, List.getElem_cons_succ, Act.put, List.setIfInBounds_toArray, List.set_cons_zero, List.set_cons_succ]
            refine wpAnyH_take (i := 1) (v := ?_) rfl (by kernel_rfl) (by kernel_rfl) (by kernel_rfl) (fun _ _ _ h => h) (Or.inl ⟨by rfl, ?_⟩) hS0 ?_
            rotate_left
            · (intro w hSw; (try dsimp only at hSw); go_simp; try with_reducible rfl)
            simp only [List.getElem_toArray, List.getElem_cons_zero, List.getElem_cons_succ, Act.put, List.setIfInBounds_toArray, List.set_cons_zero, List.set_cons_succ]
            refine wpAnyH_take (i := 2) (v := ?_) rfl (by kernel_rfl) (by kernel_rfl) (by kernel_rfl) (fun _ _ _ h => h) (Or.inl ⟨by rfl, ?_⟩) hS0 ?_
            rotate_left
            · (intro w hSw; (try dsimp only at hSw); go_simp; try with_reducible rfl)
            simp only [List.getElem_toArray, List.getElem_cons_zero, List.getElem_cons_succ, Act.put, List.setIfInBounds_toArray, List.set_cons_zero, List.set_cons_succ]
            refine wpAnyH_take (i := 3) (v := ?_) rfl (by kernel_rfl) (by kernel_rfl) (by kernel_rfl) (fun _ _ _ h => h) (Or.inl ⟨by rfl, ?_⟩) hS0 ?_
            rotate_left
            · (intro w hSw; (try dsimp only at hSw); go_simp; try with_reducible rfl)
            simp only [List.getElem_toArray, List.getElem_cons_zero, List.getElem_cons_succ, Act.put, List.setIfInBounds_toArray, List.set_cons_zero, List.set_cons_succ]
            refine wpAnyH_take (i := 4) (v := ?_) rfl (by kernel_rfl) (by kernel_rfl) (by kernel_rfl) (fun _ _ _ h => h) (Or.inl ⟨by rfl, ?_⟩) hS0 ?_
            rotate_left
            · (intro w hSw; (try dsimp only at hSw); go_simp; try with_reducible rfl)
            simp only [List.getElem_toArray, List.getElem_cons_zero, List.getElem_cons_succ, Act.put, List.setIfInBounds_toArray, List.set_cons_zero, List.set_cons_succ]
            refine wpAnyH_take (i := 5) (v := ?_) rfl (by kernel_rfl) (by kernel_rfl) (by kernel_rfl) (fun _ _ _ h => h) (Or.inl ⟨by rfl, ?_⟩) hS0 ?_
            rotate_left
            · (intro w hSw; (try dsimp only at hSw); go_simp; try with_reducible rfl)
            simp only [List.getElem_toArray, List.getElem_cons_zero, List.getElem_cons_succ, Act.put, List.setIfInBounds_toArray, List.set_cons_zero, List.set_cons_succ]
            refine wpAnyH_take (i := 6) (v := ?_) rfl (by kernel_rfl) (by kernel_rfl) (by kernel_rfl) (fun _ _ _ h => h) (Or.inl ⟨by rfl, ?_⟩) hS0 ?_
            rotate_left
            · (intro w hSw; (try dsimp only at hSw); go_simp; try with_reducible rfl)
            simp only [List.getElem_toArray, List.getElem_cons_zero, List.getElem_cons_succ, Act.put, List.setIfInBounds_toArray, List.set_cons_zero, List.set_cons_succ]
            refine wpAnyH_done (by kernel_rfl) ?_ _
            have z1 := hS0.1
            have z2 := hS0.2.1
            have hbw := hS0.2.2
            clear hS0
            have h0r : Hid (Below w.heap.size w v0) := H3.out.trans (hbw.mono H3.out.size)
            have hB0 : Blk v0.drew r 70 (tdR T vp s0 s1 s2 ve) := (HB.out.below h0r.out HB.out.lt).drew
            have hS0 : SL v0.drew base vp s0 s1 s2 ve Q T := HS.out.below (Below.drew h0r.out) (Nat.le_refl _)
            have x1 : v0.drew.cell? ⟨r, 6, none⟩ = some ve := hB0.cell 6
            have x2 : v0.drew.cell? ⟨b, off, none⟩ = some (.string ⟨hd.toArray⟩) := (h0r.out.cell (cell_lt HC.out)).trans HC.out
            have hbs0 : base ≤ v0.drew.heap.size := Nat.le_trans hbs h0r.out.size
            have y1 : (v0.drew.alloc (.cells #[Value.int .i64 ((numV x).1 : Int), Value.int .u8 (k : Int), Value.bool up] 31)).cell? ⟨r, 6, none⟩ = some ve := (World.cell?_alloc_lt _ _ _ (cell_lt x1)).trans x1
            have y2 : (v0.drew.alloc (.cells #[Value.int .i64 ((numV x).1 : Int), Value.int .u8 (k : Int), Value.bool up] 31)).cell? ⟨b, off, none⟩ = some (.string ⟨hd.toArray⟩) := (World.cell?_alloc_lt _ _ _ (cell_lt x2)).trans x2
            have y3 : ((v0.alloc (.cells #[Value.int .i64 ((numV x).1 : Int), Value.int .u8 (k : Int), Value.bool up] 31)).drew).cell? ⟨r, 6, none⟩ = some ve := y1
            have y4 : ((v0.alloc (.cells #[Value.int .i64 ((numV x).1 : Int), Value.int .u8 (k : Int), Value.bool up] 31)).drew).cell? ⟨b, off, none⟩ = some (.string ⟨hd.toArray⟩) := y2
            have hB4 : Hid (Blk (v0.drew.alloc (.cells #[Value.int .i64 ((numV x).1 : Int), Value.int .u8 (k : Int), Value.bool up] 31)) r 70 (tdR T vp s0 s1 s2 ve)) := hB0.alloc _
            have hS4 : Hid (SL (v0.drew.alloc (.cells #[Value.int .i64 ((numV x).1 : Int), Value.int .u8 (k : Int), Value.bool up] 31)) base vp s0 s1 s2 ve Q T) := hS0.below (Bl.alloc (Below.refl _ _) _) (Nat.le_refl _)
            have hbs4 : base ≤ (v0.drew.alloc (.cells #[Value.int .i64 ((numV x).1 : Int), Value.int .u8 (k : Int), Value.bool up] 31)).heap.size := by simp at hbs0 ⊢; omega
            have hblk := heap_alloc_new v0.drew (.cells #[Value.int .i64 ((numV x).1 : Int), Value.int .u8 (k : Int), Value.bool up] 31)
            have hw : IntKind.u8.wrap (k : Int) = (k : Int) := by rw [IntKind.wrap_u8]; omega
            have hub := hup.out
            have hQ := HN.out.ae
            have HBK := hide hblk
            clear hB0 hS0 z1 z2 hblk
            go_wp2_with fail
            go_region_law (first
              | (refine step_append_lies _ (by rfl) (.tmp 37) (.tmp 46) 25 (by rfl) base 31 i1 _ 3 16 Tryd.underlying25 hi hz0 hz1 hz2 rfl (by decide) ve T.ed.length (edC T.ed) (by rfl) hS4.out.re
                  ⟨v0.heap.size, 0, none⟩ 1 1 [Value.int .i64 ((numV x).1 : Int), Value.int .u8 (k : Int), Value.bool up] (by rfl) (by rfl) (World.news_of_block (cs := #[Value.int .i64 ((numV x).1 : Int), Value.int .u8 (k : Int), Value.bool up]) (t := 31) (fr := (0, 0)) HBK.out) (by simp [Value.oneCell'])
                  (by omega) (by unfold maxLen; omega) (by omega) hbs4 _ rfl ?_; intro g cap w4 q1 q2 q3 q4; obtain ⟨p1, p2, p3, p4, p5⟩ := hd_put hB4.out hrb hbs4 q2 hS4.out.of0.2.2.2.1 6 (.slice (some ⟨g, 0, none⟩) (T.ed.length + 1) cap); replace p3 : w4.cell? ⟨r, 6, none⟩ = some ve := p3))
            all_goals
              go_wp2_with fail
              go_ret
              rw [E1.out]
              refine ⟨rfl, ⟨hrb, p5, vp, s0, s1, s2, _, Q, p1, (SL.edge (e := ((numV x).1, k, up)) hS4.out q1 q2).setCell ⟨r, 6, none⟩ hrb _⟩, ?_⟩
              exact (((Below.drew h0r.out).mono (Nat.le_of_lt hrl)).trans ((Bl.alloc (Below.refl _ _) _).mono (by omega))).trans p2
          · have hqb : (nmF k == y) = false := beq_eq_false_iff_ne.2 hq
            have HQ := hide hq
            clear hq
            go_wp2_with fail
            refine wp_region_held_drew (S := fun W => W.cell? ⟨gn, k, none⟩ = some (.string ⟨(nmF k).toArray⟩) ∧ W.cell? ⟨b, off + 2, none⟩ = some (.string ⟨y.toArray⟩) ∧ Below w3.heap.size w3 W) (by kernel_rfl) ⟨(by first | exact z1.drew | exact z1 | exact Below.drew z1), (by first | exact z2.drew | exact z2 | exact Below.drew z2), (by first | exact hbw.drew | exact hbw | exact Below.drew hbw)⟩ (fun hS0 => ?_)
            clear z1 z2 hbw
            change wpAnyH _ _ _ _ _ 7 #[false, false, false, false, false, false, false] _ _
            generalize wr.drew = v0 at *
            refine wpAnyH_take (i := 0) (v := ?_) rfl (by kernel_rfl) (by kernel_rfl) (by kernel_rfl) (fun _ _ _ h => h) (Or.inl ⟨by rfl, ?_⟩) hS0 ?_
            rotate_left
            · (intro w hSw; (try dsimp only at hSw); go_simp; try with_reducible rfl)
            simp only [List.getElem_toArray, List.getElem_cons_zero, List.getElem_cons_succ, Act.put, List.setIfInBounds_toArray, List.set_cons_zero, List.set_cons_succ]
            refine wpAnyH_take (i := 1) (v := ?_) rfl (by kernel_rfl) (by kernel_rfl) (by kernel_rfl) (fun _ _ _ h => h) (Or.inl ⟨by rfl, ?_⟩) hS0 ?_
            rotate_left
            · (intro w hSw; (try dsimp only at hSw); go_simp; try with_reducible rfl)
            simp only [List.getElem_toArray, List.getElem_cons_zero, List.getElem_cons_succ, Act.put, List.setIfInBounds_toArray, List.set_cons_zero, List.set_cons_succ]
            refine wpAnyH_take (i := 2) (v := ?_) rfl (by kernel_rfl) (by kernel_rfl) (by kernel_rfl) (fun _ _ _ h => h) (Or.inl ⟨by rfl, ?_⟩) hS0 ?_
            rotate_left
            · (intro w hSw; (try dsimp only at hSw); go_simp; try with_reducible rfl)
            simp only [List.getElem_toArray, List.getElem_cons_zero, List.getElem_cons_succ, Act.put, List.setIfInBounds_toArray, List.set_cons_zero, List.set_cons_succ]
            refine wpAnyH_take (i := 3) (v := ?_) rfl (by kernel_rfl) (by kernel_rfl) (by kernel_rfl) (fun _ _ _ h => h) (Or.inl ⟨by rfl, ?_⟩) hS0 ?_
            rotate_left
            · (intro w hSw; (try dsimp only at hSw); go_simp; try with_reducible rfl)
            simp only [List.getElem_toArray, List.getElem_cons_zero, List.getElem_cons_succ, Act.put, List.setIfInBounds_toArray, List.set_cons_zero, List.set_cons_succ]
            refine wpAnyH_take (i := 4) (v := ?_) rfl (by kernel_rfl) (by kernel_rfl) (by kernel_rfl) (fun _ _ _ h => h) (Or.inl ⟨by rfl, ?_⟩) hS0 ?_
            rotate_left
            · (intro w hSw; (try dsimp only at hSw); go_simp; try with_reducible rfl)
            simp only [List.getElem_toArray, List.getElem_cons_zero, List.getElem_cons_succ, Act.put, List.setIfInBounds_toArray, List.set_cons_zero, List.set_cons_succ]
            refine wpAnyH_take (i := 5) (v := ?_) rfl (by kernel_rfl) (by kernel_rfl) (by kernel_rfl) (fun _ _ _ h => h) (Or.inl ⟨by rfl, ?_⟩) hS0 ?_
            rotate_left
            · (intro w hSw; (try dsimp only at hSw); go_simp; try with_reducible rfl)
            simp only [List.getElem_toArray, List.getElem_cons_zero, List.getElem_cons_succ, Act.put, List.setIfInBounds_toArray, List.set_cons_zero, List.set_cons_succ]
            refine wpAnyH_take (i := 6) (v := ?_) rfl (by kernel_rfl) (by kernel_rfl) (by kernel_rfl) (fun _ _ _ h => h) (Or.inl ⟨by rfl, ?_⟩) hS0 ?_
            rotate_left
            · (intro w hSw; (try dsimp only at hSw); go_simp; try with_reducible rfl)
            simp only [List.getElem_toArray, List.getElem_cons_zero, List.getElem_cons_succ, Act.put, List.setIfInBounds_toArray, List.set_cons_zero, List.set_cons_succ]
            refine wpAnyH_done (by kernel_rfl) ?_ _
            have z1 := hS0.1
            have z2 := hS0.2.1
            have hbw := hS0.2.2
            clear hS0
            go_wp2_with fail
            refine ⟨⟨k + 1, by omega, by go_num, fun j h => ?_, hbw⟩, ?_⟩
            · rcases Nat.lt_or_ge j k with g | g
              · exact hj.out j g
              · obtain rfl : j = k := by omega
                exact HQ.out
            · simp [intOf] <;> omega
        · obtain rfl : k = 4 := by omega
          have E1 := hide (edgeT_no (T := T) (up := up) HE.out (lineK_none hj.out))
          have h0r : Hid (Below w.heap.size w wr) := H3.out.trans (hbr.out.mono H3.out.size)
          go_wp2_with fail
          go_ret
          rw [E1.out]
          exact ⟨rfl, HT.out.low h0r.out, h0r.out.mono (Nat.le_of_lt hrl)⟩
    · have hz : (((numV x).2 : Int) != 0) = true := by rw [bne_iff_ne]; omega
      have E1 := hide (edgeT_num (T := T) (up := up) (b := y) he)
      clear he
      go_enter Tryd.func65, Tryd.ntmps65
      go_wp2_with fail
      refine hN.mono ?_
      clear hN hx
      rintro e w2 ⟨rfl, hb2⟩
      go_wp2_with fail
      go_ret
      rw [E1.out]
      exact ⟨rfl, HT.out.low hb2, hb2.mono (Nat.le_of_lt hrl)⟩
  · have E1 : edgeT T up R = (3, T) := by
      unfold edgeT
      split
      · simp at h2
      · rfl
    rw [E1]
    have hz : (((R.length + 1 : Nat) : Int) != 3) = true := by rw [bne_iff_ne]; omega
    clear E1 h2 hLr hc1
    generalize R.length = n at *
    go_enter Tryd.func65, Tryd.ntmps65
    go_wp2_with fail
    go_ret
    exact ⟨rfl, HT.out, Below.refl _ _⟩
end Go.Proofs.YtdhdknjefjolpaaDoor
end
section
/-
  gannetref33.Told: one (printed by told22.py).
-/
namespace Go.Proofs.YtdhdknjefjolpaaDoor
set_option linter.unusedSimpArgs false
set_option linter.unusedVariables false
set_option maxRecDepth 10000
open Go.RowKit Go.Shelf Pl
theorem lineT_wPages (T : Tl) (R : List (List UInt8)) : lineT T (wPages :: R) = onceT T false R := by unfold lineT; dsimp only; rw [if_pos rfl]
theorem lineT_wBudget (T : Tl) (R : List (List UInt8)) : lineT T (wBudget :: R) = onceT T true R := by unfold lineT; dsimp only; rw [if_neg (by decide)]; rw [if_pos rfl]
theorem lineT_wRom (T : Tl) (R : List (List UInt8)) : lineT T (wRom :: R) = romT T R := by unfold lineT; dsimp only; rw [if_neg (by decide)]; rw [if_neg (by decide)]; rw [if_pos rfl]
theorem lineT_wVdc (T : Tl) (R : List (List UInt8)) : lineT T (wVdc :: R) = feedT T 0 R := by unfold lineT; dsimp only; rw [if_neg (by decide)]; rw [if_neg (by decide)]; rw [if_neg (by decide)]; rw [if_pos rfl]
theorem lineT_wVce (T : Tl) (R : List (List UInt8)) : lineT T (wVce :: R) = feedT T 1 R := by unfold lineT; dsimp only; rw [if_neg (by decide)]; rw [if_neg (by decide)]; rw [if_neg (by decide)]; rw [if_neg (by decide)]; rw [if_pos rfl]
theorem lineT_wPort (T : Tl) (R : List (List UInt8)) : lineT T (wPort :: R) = feedT T 2 R := by unfold lineT; dsimp only; rw [if_neg (by decide)]; rw [if_neg (by decide)]; rw [if_neg (by decide)]; rw [if_neg (by decide)]; rw [if_neg (by decide)]; rw [if_pos rfl]
theorem lineT_wUp (T : Tl) (R : List (List UInt8)) : lineT T (wUp :: R) = edgeT T true R := by unfold lineT; dsimp only; rw [if_neg (by decide)]; rw [if_neg (by decide)]; rw [if_neg (by decide)]; rw [if_neg (by decide)]; rw [if_neg (by decide)]; rw [if_neg (by decide)]; rw [if_pos rfl]
theorem lineT_wDown (T : Tl) (R : List (List UInt8)) : lineT T (wDown :: R) = edgeT T false R := by unfold lineT; dsimp only; rw [if_neg (by decide)]; rw [if_neg (by decide)]; rw [if_neg (by decide)]; rw [if_neg (by decide)]; rw [if_neg (by decide)]; rw [if_neg (by decide)]; rw [if_neg (by decide)]; rw [if_pos rfl]
theorem lineT_no (T : Tl) (h : List UInt8) (R : List (List UInt8)) (n0 : h ≠ wPages) (n1 : h ≠ wBudget) (n2 : h ≠ wRom) (n3 : h ≠ wVdc) (n4 : h ≠ wVce) (n5 : h ≠ wPort) (n6 : h ≠ wUp) (n7 : h ≠ wDown) : lineT T (h :: R) = (10, T) := by unfold lineT; dsimp only; rw [if_neg n0, if_neg n1, if_neg n2, if_neg n3, if_neg n4, if_neg n5, if_neg n6, if_neg n7]
set_option maxRecDepth 100000 in
set_option maxHeartbeats 8000000 in
theorem one_calls (r base c : Nat) (o : Option Addr) (h : List UInt8) (R : List (List UInt8)) (T : Tl) (w : World) (hT : TD w base r T) (hbn : T.bnd 200001) (hL : WsAt w o (h :: R)) (hn : R.length ≤ 200000) (hcap : R.length + 1 ≤ c) (hx : ∀ x ∈ R, x.length ≤ 200001) :
    Calls Tryd.prog 35 #[.pointer (some ⟨r, 0, none⟩), .slice o (R.length + 1) c] w fun e w' => e = .returned (.int .i64 ((lineT T (h :: R)).1 : Int)) ∧ TD w' base r (lineT T (h :: R)).2 ∧ Below r w w' := by
  obtain ⟨b, off, rfl, hbl, hc0, _⟩ := tnumA (r := r) hL
  by_cases n0 : h = wPages
  · subst n0
    have hcl := tnum_pg r base c _ R T w hT hL
    rw [lineT_wPages]
    replace hc0 : w.cell? ⟨b, off, none⟩ = some (.string ⟨#[112, 97, 103, 101, 115]⟩) := hc0
    clear hT hbn hL hx
    go_enter Tryd.func35, Tryd.ntmps35
    go_wp2_with fail
    refine hcl.mono ?_
    clear hcl hc0
    rintro e w2 ⟨rfl, h1, h2⟩
    go_wp2_with fail
    go_ret
    exact ⟨rfl, h1, h2⟩
  by_cases n1 : h = wBudget
  · subst n1
    have hcl := tnum_bd r base c _ R T w hT hL
    rw [lineT_wBudget]
    replace hc0 : w.cell? ⟨b, off, none⟩ = some (.string ⟨#[98, 117, 100, 103, 101, 116]⟩) := hc0
    clear hT hbn hL hx
    go_enter Tryd.func35, Tryd.ntmps35
    go_wp2_with fail
    refine hcl.mono ?_
    clear hcl hc0
    rintro e w2 ⟨rfl, h1, h2⟩
    go_wp2_with fail
    go_ret
    exact ⟨rfl, h1, h2⟩
  by_cases n2 : h = wRom
  · subst n2
    have hcl := trom_calls r base c _ R T w hT hbn hL hn hcap hx
    rw [lineT_wRom]
    replace hc0 : w.cell? ⟨b, off, none⟩ = some (.string ⟨#[114, 111, 109]⟩) := hc0
    clear hT hbn hL hx
    go_enter Tryd.func35, Tryd.ntmps35
    go_wp2_with fail
    refine hcl.mono ?_
    clear hcl hc0
    rintro e w2 ⟨rfl, h1, h2⟩
    go_wp2_with fail
    go_ret
    exact ⟨rfl, h1, h2⟩
  by_cases n3 : h = wVdc
  · subst n3
    have hcl := tfeed0 r base c _ R T w hT hbn hL hn hcap hx
    rw [lineT_wVdc]
    replace hc0 : w.cell? ⟨b, off, none⟩ = some (.string ⟨#[118, 100, 99]⟩) := hc0
    clear hT hbn hL hx
    go_enter Tryd.func35, Tryd.ntmps35
    go_wp2_with fail
    refine hcl.mono ?_
    clear hcl hc0
    rintro e w2 ⟨rfl, h1, h2⟩
    go_wp2_with fail
    go_ret
    exact ⟨rfl, h1, h2⟩
  by_cases n4 : h = wVce
  · subst n4
    have hcl := tfeed1 r base c _ R T w hT hbn hL hn hcap hx
    rw [lineT_wVce]
    replace hc0 : w.cell? ⟨b, off, none⟩ = some (.string ⟨#[118, 99, 101]⟩) := hc0
    clear hT hbn hL hx
    go_enter Tryd.func35, Tryd.ntmps35
    go_wp2_with fail
    refine hcl.mono ?_
    clear hcl hc0
    rintro e w2 ⟨rfl, h1, h2⟩
    go_wp2_with fail
    go_ret
    exact ⟨rfl, h1, h2⟩
  by_cases n5 : h = wPort
  · subst n5
    have hcl := tfeed2 r base c _ R T w hT hbn hL hn hcap hx
    rw [lineT_wPort]
    replace hc0 : w.cell? ⟨b, off, none⟩ = some (.string ⟨#[112, 111, 114, 116]⟩) := hc0
    clear hT hbn hL hx
    go_enter Tryd.func35, Tryd.ntmps35
    go_wp2_with fail
    refine hcl.mono ?_
    clear hcl hc0
    rintro e w2 ⟨rfl, h1, h2⟩
    go_wp2_with fail
    go_ret
    exact ⟨rfl, h1, h2⟩
  by_cases n6 : h = wUp
  · subst n6
    have hcl := tedge_calls r base c _ true R T w hT hbn hL
    rw [lineT_wUp]
    replace hc0 : w.cell? ⟨b, off, none⟩ = some (.string ⟨#[117, 112]⟩) := hc0
    clear hT hbn hL hx
    go_enter Tryd.func35, Tryd.ntmps35
    go_wp2_with fail
    refine hcl.mono ?_
    clear hcl hc0
    rintro e w2 ⟨rfl, h1, h2⟩
    go_wp2_with fail
    go_ret
    exact ⟨rfl, h1, h2⟩
  by_cases n7 : h = wDown
  · subst n7
    have hcl := tedge_calls r base c _ false R T w hT hbn hL
    rw [lineT_wDown]
    replace hc0 : w.cell? ⟨b, off, none⟩ = some (.string ⟨#[100, 111, 119, 110]⟩) := hc0
    clear hT hbn hL hx
    go_enter Tryd.func35, Tryd.ntmps35
    go_wp2_with fail
    refine hcl.mono ?_
    clear hcl hc0
    rintro e w2 ⟨rfl, h1, h2⟩
    go_wp2_with fail
    go_ret
    exact ⟨rfl, h1, h2⟩
  rw [lineT_no T h R n0 n1 n2 n3 n4 n5 n6 n7]
  have b0 : (h == [112, 97, 103, 101, 115]) = false := beq_eq_false_iff_ne.2 n0
  have b1 : (h == [98, 117, 100, 103, 101, 116]) = false := beq_eq_false_iff_ne.2 n1
  have b2 : (h == [114, 111, 109]) = false := beq_eq_false_iff_ne.2 n2
  have b3 : (h == [118, 100, 99]) = false := beq_eq_false_iff_ne.2 n3
  have b4 : (h == [118, 99, 101]) = false := beq_eq_false_iff_ne.2 n4
  have b5 : (h == [112, 111, 114, 116]) = false := beq_eq_false_iff_ne.2 n5
  have b6 : (h == [117, 112]) = false := beq_eq_false_iff_ne.2 n6
  have b7 : (h == [100, 111, 119, 110]) = false := beq_eq_false_iff_ne.2 n7
  have HT := hide hT
  clear hT hbn hL hx n0 n1 n2 n3 n4 n5 n6 n7
  go_enter Tryd.func35, Tryd.ntmps35
  go_wp2_with fail
  go_ret
  exact ⟨rfl, HT.out, Below.refl _ _⟩
end Go.Proofs.YtdhdknjefjolpaaDoor
end
