/-
  The texts Sc26, Sc27, Sc28 of the proofs about scripts, as one file (they are merged by a program).
-/
import Derived.Test.YtdhdknjefjolpaaDoorA9
import Derived.RangeFuncNested
section
/-
  script.reader: once (printed by rd26.py).
-/
namespace Go.Proofs.YtdhdknjefjolpaaDoor
set_option linter.unusedSimpArgs false
set_option linter.unusedVariables false
set_option maxRecDepth 10000
open Go.RowKit Go.Shelf Go.ChangeMaps Go.MapKept Pl
theorem MetB.same {W W' : World} {m : Nat} {pg bd : Option Nat} (h : MetB W m pg bd) (e : W'.heap[m]? = W.heap[m]?) : MetB W' m pg bd := by
  obtain ⟨es, clock, hb, r⟩ := h
  exact ⟨es, clock, e.trans hb, r⟩
def rdR (m : Nat) (vp v0 v1 v2 ve : Value) : Array Value := #[.map (some m), vp, v0, v1, v2, ve]
/-- A reader, and what it holds. -/
def RD (W : World) (base r m : Nat) (T : Tl) : Prop := r < base ∧ m < base ∧ r ≠ m ∧ base ≤ W.heap.size ∧ ∃ vp v0 v1 v2 ve Q, Blk W r 63 (rdR m vp v0 v1 v2 ve) ∧ MetB W m T.pg T.bd ∧ SL W base vp v0 v1 v2 ve Q T
/-- What a line told leaves as it lay. -/
structure KpR (base r m : Nat) (W W' : World) : Prop where
  os : W'.os = W.os
  tape : W'.tape = W.tape
  output : W'.output = W.output
  size : W.heap.size ≤ W'.heap.size
  low : ∀ k, k < base → k ≠ r → k ≠ m → W'.heap[k]? = W.heap[k]?
  walk : ∀ k o, W.heap[k]? = some o → o.isCells = false → k ≠ m → W'.heap[k]? = some o
theorem KpR.refl (base r m : Nat) (W : World) : KpR base r m W W := ⟨rfl, rfl, rfl, Nat.le_refl _, fun _ _ _ _ => rfl, fun _ _ h _ _ => h⟩
theorem KpR.trans {base r m : Nat} {A B C : World} (h : KpR base r m A B) (k : KpR base r m B C) : KpR base r m A C :=
  ⟨k.os.trans h.os, k.tape.trans h.tape, k.output.trans h.output, Nat.le_trans h.size k.size, fun x h1 h2 h3 => (k.low x h1 h2 h3).trans (h.low x h1 h2 h3), fun x o h1 h2 h3 => k.walk x o (h.walk x o h1 h2 h3) h2 h3⟩
theorem KpR.of {base r m n : Nat} {A B : World} (h : Below n A B) (hb : base ≤ n) (hn : A.heap.size ≤ n) : KpR base r m A B :=
  ⟨h.os, h.tape, h.output, h.size, fun x h1 _ _ => h.block x (by omega), fun x o h1 _ _ => (h.block x (by have := (Array.getElem?_eq_some_iff.1 h1).1; omega)).trans h1⟩
theorem KpR.ofB {base r m : Nat} {A B : World} (h : Below A.heap.size A B) (hb : base ≤ A.heap.size) : KpR base r m A B := KpR.of h hb (Nat.le_refl _)
/-- A row that grew, then a cell of the reader. -/
theorem KpR.put {base r m i : Nat} {A B : World} {row : Option Nat} {u : Value} {ty : TypeId} {cs : Array Value} (hbs : base ≤ A.heap.size) (hg : A.grownBy B row) (hrow : ∀ k, row = some k → base ≤ k ∧ ∃ o, A.heap[k]? = some o ∧ o.isCells = true) (hB : Blk A r ty cs) : KpR base r m A (B.setCell ⟨r, i, none⟩ u) := by
  have hO := Only.setCell (S := fun k => k = r) (Only.refl _ B) ⟨r, i, none⟩ rfl u
  refine ⟨hO.os.trans hg.os, hO.tape.trans hg.tape, hO.output.trans hg.output, Nat.le_trans hg.size hO.size, fun k h1 h2 h3 => ?_, fun k o h1 h2 h3 => ?_⟩
  · have hk : k < A.heap.size := by omega
    rw [hO.block k (Nat.lt_of_lt_of_le hk hg.size) h2]
    exact hg.block k hk (fun e => by have := (hrow k e.symm).1; omega)
  · have hk := (Array.getElem?_eq_some_iff.1 h1).1
    have hkr : k ≠ r := by
      intro e
      subst e
      rw [show A.heap[k]? = _ from hB] at h1
      cases h1
      cases h2
    rw [hO.block k (Nat.lt_of_lt_of_le hk hg.size) hkr, hg.block k hk ?_, h1]
    intro e
    obtain ⟨_, o', h4, h5⟩ := hrow k e.symm
    rw [h1] at h4
    cases h4
    rw [h2] at h5
    cases h5
theorem RD.low {W W' : World} {base r m : Nat} {T : Tl} (h : RD W base r m T) (hb : Below W.heap.size W W') : RD W' base r m T := by
  obtain ⟨h1, h2, h3, h4, vp, v0, v1, v2, ve, Q, h5, h6, h7⟩ := h
  exact ⟨h1, h2, h3, Nat.le_trans h4 hb.size, vp, v0, v1, v2, ve, Q, h5.below hb h5.lt, h6.same (hb.block m (by omega)), h7.below hb (Nat.le_refl _)⟩
theorem infoI64 : (Tryd.prog.info? 2).map (fun i => (i.zero, i.size, i.bytes)) = some (some (.int .i64 0), 1, 8) := by kernel_rfl
theorem zeroI64 (W : World) : (zeroValue 2).run Tryd.prog W = .ok (.int .i64 0) W := by
  obtain ⟨i, hi, hz0, _, _⟩ := info_parts infoI64
  simp [zeroValue, typeInfo, hi, hz0]
theorem numF_lt : ∀ (l : List UInt8) (a n : Nat), numF l a = some n → n < (a + 1) * 10 ^ l.length
  | [], a, n, h => by cases h; simp
  | c :: r, a, n, h => by
    rw [numF] at h
    split at h
    · rename_i hd
      have := numF_lt r _ n h
      unfold isD at hd
      simp only [Bool.and_eq_true, decide_eq_true_eq] at hd
      rw [List.length_cons, Nat.pow_succ]
      have h2 : (10 * a + (c.toNat - 48) + 1) * 10 ^ r.length ≤ ((a + 1) * 10) * 10 ^ r.length := Nat.mul_le_mul_right _ (by omega)
      have h3 : (a + 1) * 10 * 10 ^ r.length = (a + 1) * (10 ^ r.length * 10) := by rw [Nat.mul_assoc, Nat.mul_comm 10]
      omega
    · cases h
theorem numV_lt (x : List UInt8) : (numV x).1 < 1000000000000000000 := by
  unfold numV
  split
  · decide
  · split
    · decide
    · split
      · decide
      · rename_i h1 h2 h3
        cases e : numF x 0 with
        | none => exact (by decide)
        | some n =>
          have h4 := numF_lt x 0 n e
          have h5 := pow_le x.length (by omega)
          show n < _
          omega
theorem numL_lt (L : List (List UInt8)) : (numL L).1 < 1000000000000000000 := by
  unfold numL
  split
  · split
    · decide
    · exact numV_lt _
  · decide
theorem numL_err (L : List (List UInt8)) : (numL L).2 = 0 ∨ (numL L).2 = 3 := by
  unfold numL
  split
  · split
    · exact Or.inr rfl
    · exact Or.inl rfl
  · exact Or.inr rfl
set_option maxRecDepth 100000 in
set_option maxHeartbeats 8000000 in
theorem once_bd (base r m c : Nat) (o : Option Addr) (L : List (List UInt8)) (T : Tl) (w : World) (hT : RD w base r m T) (hL : WsAt w o L) (hn : L.length ≤ 200001) :
    Calls Tryd.prog 58 #[.pointer (some ⟨r, 0, none⟩), .string ⟨#[98, 117, 100, 103, 101, 116]⟩, .slice o L.length c] w fun e w' => e = .returned (.int .i64 ((onceT T true L).1 : Int)) ∧ RD w' base r m (onceT T true L).2 ∧ KpR base r m w w' := by
  have HT := hide hT
  obtain ⟨hrb, hmb, hrm, hbs, vp, s0, s1, s2, ve, Q, hB, hM, hS⟩ := hT
  have hN := number_calls o c L w hL hn
  have HB := hide hB
  have HM := hide hM
  have HS := hide hS
  have HC : Hid (cntO T.pg + cntO T.bd ≤ 2) := by unfold Hid cntO; cases T.pg <;> cases T.bd <;> simp
  clear hB hM hS hL
  have hnl := numL_lt L
  rcases numL_err L with he | he
  · have hz : (((numL L).2 : Int) != 0) = false := by rw [he]; rfl
    have h0 : ¬ (numL L).2 ≠ 0 := by omega
    cases hf : T.bd with
    | some q =>
      have e1 : onceT T true L = (11, T) := by unfold onceT; rw [if_neg h0, hf]; rfl
      rw [e1]
      have HF : Hid (T.bd = some q) := hf
      clear e1 he h0 hf
      go_enter Tryd.func58, Tryd.ntmps58
      go_wp2_with fail
      refine hN.mono ?_
      clear hN
      rintro e w2 ⟨rfl, hb2⟩
      obtain ⟨v, ps, hlk, hv⟩ := World.ownsMap.look_ok (HM.out.same (hb2.block m (by omega))) keyed_str Tryd.underlying60 (zeroI64 w2) (elI_nat 0 (by decide)) key_budget
      rw [met_has_bd] at hlk
      have hk : w2.cell? ⟨r, 0, none⟩ = some (.map (some m)) := (HB.out.below hb2 HB.out.lt).cell 0
      clear hv
      rw [HF.out] at hlk
      go_wp2_with fail
      go_ret
      exact ⟨rfl, HT.out.low hb2, KpR.ofB hb2 hbs⟩
    | none =>
      have e1 : onceT T true L = (0, { T with bd := some (numL L).1 }) := by unfold onceT; rw [if_neg h0, hf]; rfl
      rw [e1]
      have HF : Hid (T.bd = none) := hf
      clear e1 he h0 hf
      go_enter Tryd.func58, Tryd.ntmps58
      go_wp2_with fail
      refine hN.mono ?_
      clear hN
      rintro e w2 ⟨rfl, hb2⟩
      obtain ⟨v, ps, hlk, hv⟩ := World.ownsMap.look_ok (HM.out.same (hb2.block m (by omega))) keyed_str Tryd.underlying60 (zeroI64 w2) (elI_nat 0 (by decide)) key_budget
      rw [met_has_bd] at hlk
      have hk : w2.cell? ⟨r, 0, none⟩ = some (.map (some m)) := (HB.out.below hb2 HB.out.lt).cell 0
      clear hv
      rw [HF.out] at hlk
      obtain ⟨w3, hrun, hm3, hg3⟩ := World.ownsMap.update (HM.out.same (hb2.block m (by omega))) keyed_str Tryd.underlying60 (by have := HC.out; unfold maxLen; omega) key_budget (elI_nat (numL L).1 (by have := numL_lt L; omega))
      have HM3 := hide hm3
      have HG3 := hide hg3
      clear hm3 hg3
      go_wp2_with fail
      go_ret
      refine ⟨rfl, ⟨hrb, hmb, hrm, Nat.le_trans hbs (Nat.le_trans hb2.size HG3.out.size), vp, s0, s1, s2, ve, Q, (HB.out.below hb2 HB.out.lt).grown HG3.out (fun e => hrm (by injection e)), ?_, ((HS.out.below hb2 (Nat.le_refl _)).keep (fun g h1 h2 => HG3.out.block g h2 (fun e => by injection e with e; omega))).told _ rfl rfl rfl rfl rfl⟩, (KpR.ofB hb2 hbs).trans ?_⟩
      · have h := HM3.out
        rw [HF.out, met_put_bd] at h
        show World.ownsMap _ _ _ _ _ _ _
        exact h.mono (by show cntO T.pg + 0 + 1 ≤ cntO T.pg + 1; omega)
      · exact ⟨HG3.out.os, HG3.out.tape, HG3.out.output, HG3.out.size, fun k h1 h2 h3 => HG3.out.block k (by have := hb2.size; omega) (fun e => h3 (by injection e)), fun k o h1 h2 h3 => (HG3.out.block k (Array.getElem?_eq_some_iff.1 h1).1 (fun e => h3 (by injection e))).trans h1⟩
  · have hz : (((numL L).2 : Int) != 0) = true := by rw [he]; rfl
    have e1 : onceT T true L = (3, T) := onceT_err _ (by omega)
    rw [e1]
    rw [he] at hN
    clear e1 he hz
    go_enter Tryd.func58, Tryd.ntmps58
    go_wp2_with fail
    refine hN.mono ?_
    clear hN
    rintro e w2 ⟨rfl, hb2⟩
    go_wp2_with fail
    go_ret
    exact ⟨rfl, HT.out.low hb2, KpR.ofB hb2 hbs⟩
set_option maxRecDepth 100000 in
set_option maxHeartbeats 8000000 in
theorem once_pg (base r m c : Nat) (o : Option Addr) (L : List (List UInt8)) (T : Tl) (w : World) (hT : RD w base r m T) (hL : WsAt w o L) (hn : L.length ≤ 200001) :
    Calls Tryd.prog 58 #[.pointer (some ⟨r, 0, none⟩), .string ⟨#[112, 97, 103, 101, 115]⟩, .slice o L.length c] w fun e w' => e = .returned (.int .i64 ((onceT T false L).1 : Int)) ∧ RD w' base r m (onceT T false L).2 ∧ KpR base r m w w' := by
  have HT := hide hT
  obtain ⟨hrb, hmb, hrm, hbs, vp, s0, s1, s2, ve, Q, hB, hM, hS⟩ := hT
  have hN := number_calls o c L w hL hn
  have HB := hide hB
  have HM := hide hM
  have HS := hide hS
  have HC : Hid (cntO T.pg + cntO T.bd ≤ 2) := by unfold Hid cntO; cases T.pg <;> cases T.bd <;> simp
  clear hB hM hS hL
  have hnl := numL_lt L
  rcases numL_err L with he | he
  · have hz : (((numL L).2 : Int) != 0) = false := by rw [he]; rfl
    have h0 : ¬ (numL L).2 ≠ 0 := by omega
    by_cases g1 : (numL L).1 < 1
    · have e1 : onceT T false L = (6, T) := by unfold onceT; rw [if_neg h0, if_neg (by decide), if_pos (Or.inl g1)]
      rw [e1]
      have q1 : ((numL L).1 : Int) < 1 := by omega
      clear e1 he h0 g1
      go_enter Tryd.func58, Tryd.ntmps58
      go_wp2_with fail
      refine hN.mono ?_
      clear hN
      rintro e w2 ⟨rfl, hb2⟩
      go_wp2_with fail
      go_ret
      exact ⟨rfl, HT.out.low hb2, KpR.ofB hb2 hbs⟩
    · have q1 : (decide (((numL L).1 : Int) < 1)) = false := decide_eq_false (by omega)
      by_cases g2 : 128 < (numL L).1
      · have e1 : onceT T false L = (6, T) := by unfold onceT; rw [if_neg h0, if_neg (by decide), if_pos (Or.inr g2)]
        rw [e1]
        have q2 : (128 : Int) < ((numL L).1 : Int) := by omega
        clear e1 he h0 g1 g2
        go_enter Tryd.func58, Tryd.ntmps58
        go_wp2_with fail
        refine hN.mono ?_
        clear hN
        rintro e w2 ⟨rfl, hb2⟩
        go_wp2_with fail
        go_ret
        exact ⟨rfl, HT.out.low hb2, KpR.ofB hb2 hbs⟩
      · have q2 : (decide ((128 : Int) < ((numL L).1 : Int))) = false := decide_eq_false (by omega)
        have h1 : ¬ ((numL L).1 < 1 ∨ 128 < (numL L).1) := by omega
        cases hf : T.pg with
        | some q =>
          have e1 : onceT T false L = (11, T) := by unfold onceT; rw [if_neg h0, if_neg (by decide), if_neg h1, hf]; rfl
          rw [e1]
          have HF : Hid (T.pg = some q) := hf
          clear e1 he h0 hf g1 g2 h1
          go_enter Tryd.func58, Tryd.ntmps58
          go_wp2_with fail
          refine hN.mono ?_
          clear hN
          rintro e w2 ⟨rfl, hb2⟩
          obtain ⟨v, ps, hlk, hv⟩ := World.ownsMap.look_ok (HM.out.same (hb2.block m (by omega))) keyed_str Tryd.underlying60 (zeroI64 w2) (elI_nat 0 (by decide)) key_pages
          rw [met_has_pg] at hlk
          have hk : w2.cell? ⟨r, 0, none⟩ = some (.map (some m)) := (HB.out.below hb2 HB.out.lt).cell 0
          clear hv
          rw [HF.out] at hlk
          go_wp2_with fail
          go_ret
          exact ⟨rfl, HT.out.low hb2, KpR.ofB hb2 hbs⟩
        | none =>
          have e1 : onceT T false L = (0, { T with pg := some (numL L).1 }) := by unfold onceT; rw [if_neg h0, if_neg (by decide), if_neg h1, hf]; rfl
          rw [e1]
          have HF : Hid (T.pg = none) := hf
          clear e1 he h0 hf g1 g2 h1
          go_enter Tryd.func58, Tryd.ntmps58
          go_wp2_with fail
          refine hN.mono ?_
          clear hN
          rintro e w2 ⟨rfl, hb2⟩
          obtain ⟨v, ps, hlk, hv⟩ := World.ownsMap.look_ok (HM.out.same (hb2.block m (by omega))) keyed_str Tryd.underlying60 (zeroI64 w2) (elI_nat 0 (by decide)) key_pages
          rw [met_has_pg] at hlk
          have hk : w2.cell? ⟨r, 0, none⟩ = some (.map (some m)) := (HB.out.below hb2 HB.out.lt).cell 0
          clear hv
          rw [HF.out] at hlk
          obtain ⟨w3, hrun, hm3, hg3⟩ := World.ownsMap.update (HM.out.same (hb2.block m (by omega))) keyed_str Tryd.underlying60 (by have := HC.out; unfold maxLen; omega) key_pages (elI_nat (numL L).1 (by have := numL_lt L; omega))
          have HM3 := hide hm3
          have HG3 := hide hg3
          clear hm3 hg3
          go_wp2_with fail
          go_ret
          refine ⟨rfl, ⟨hrb, hmb, hrm, Nat.le_trans hbs (Nat.le_trans hb2.size HG3.out.size), vp, s0, s1, s2, ve, Q, (HB.out.below hb2 HB.out.lt).grown HG3.out (fun e => hrm (by injection e)), ?_, ((HS.out.below hb2 (Nat.le_refl _)).keep (fun g h1 h2 => HG3.out.block g h2 (fun e => by injection e with e; omega))).told _ rfl rfl rfl rfl rfl⟩, (KpR.ofB hb2 hbs).trans ?_⟩
          · have h := HM3.out
            rw [HF.out, met_put_pg] at h
            show World.ownsMap _ _ _ _ _ _ _
            exact h.mono (by show 0 + cntO T.bd + 1 ≤ 1 + cntO T.bd; omega)
          · exact ⟨HG3.out.os, HG3.out.tape, HG3.out.output, HG3.out.size, fun k h1 h2 h3 => HG3.out.block k (by have := hb2.size; omega) (fun e => h3 (by injection e)), fun k o h1 h2 h3 => (HG3.out.block k (Array.getElem?_eq_some_iff.1 h1).1 (fun e => h3 (by injection e))).trans h1⟩
  · have hz : (((numL L).2 : Int) != 0) = true := by rw [he]; rfl
    have e1 : onceT T false L = (3, T) := onceT_err _ (by omega)
    rw [e1]
    rw [he] at hN
    clear e1 he hz
    go_enter Tryd.func58, Tryd.ntmps58
    go_wp2_with fail
    refine hN.mono ?_
    clear hN
    rintro e w2 ⟨rfl, hb2⟩
    go_wp2_with fail
    go_ret
    exact ⟨rfl, HT.out.low hb2, KpR.ofB hb2 hbs⟩
end Go.Proofs.YtdhdknjefjolpaaDoor
end
section
/-
  script.reader: feed, rom (printed by rd27.py).
-/
namespace Go.Proofs.YtdhdknjefjolpaaDoor
set_option linter.unusedSimpArgs false
set_option linter.unusedVariables false
set_option maxRecDepth 10000
open Go.RowKit Go.Shelf Pl
theorem SL.ofC {W : World} {base : Nat} {vp v0 v1 v2 ve : Value} {Q : List Pq} {T : Tl} (h : SL W base vp v0 v1 v2 ve Q T) : (∀ k, v0.ownBlock = some k → base ≤ k ∧ ∃ o, W.heap[k]? = some o ∧ o.isCells = true) ∧ (∀ k, v1.ownBlock = some k → base ≤ k ∧ ∃ o, W.heap[k]? = some o ∧ o.isCells = true) ∧ (∀ k, v2.ownBlock = some k → base ≤ k ∧ ∃ o, W.heap[k]? = some o ∧ o.isCells = true) ∧ (∀ k, ve.ownBlock = some k → base ≤ k ∧ ∃ o, W.heap[k]? = some o ∧ o.isCells = true) ∧ (∀ k, vp.ownBlock = some k → base ≤ k ∧ ∃ o, W.heap[k]? = some o ∧ o.isCells = true) := by
  have key : ∀ {n size : Nat} {e : TypeId} {v : Value} {xs : List Value}, W.ownsRow base e size v n xs → ∀ k, v.ownBlock = some k → base ≤ k ∧ ∃ o, W.heap[k]? = some o ∧ o.isCells = true := fun h k e => by
    obtain ⟨h1, cur, h2⟩ := own1_blk h e
    exact ⟨h1, _, h2, rfl⟩
  exact ⟨key h.r0, key h.r1, key h.r2, key h.re, key h.rp⟩
theorem hd_m {W1 W2 : World} {r m base i : Nat} {u : Value} {row : Option Nat} (hm : m < base) (hrm : r ≠ m) (hbs : base ≤ W1.heap.size) (hg : W1.grownBy W2 row) (hrow : ∀ k, row = some k → base ≤ k) : (W2.setCell ⟨r, i, none⟩ u).heap[m]? = W1.heap[m]? := by
  have hO := Only.setCell (S := fun k => k = r) (Only.refl _ W2) ⟨r, i, none⟩ rfl u
  rw [hO.block m (by have := hg.size; omega) (fun e => hrm e.symm)]
  exact hg.block m (by omega) (fun e => by have := hrow m e.symm; omega)
set_option maxRecDepth 100000 in
set_option maxHeartbeats 8000000 in
theorem rfeed0 (base r m c : Nat) (o : Option Addr) (L : List (List UInt8)) (T : Tl) (w : World) (hT : RD w base r m T) (hbn : T.bnd 200001) (hL : WsAt w o L) (hn : L.length ≤ 200000) (hx : ∀ x ∈ L, x.length ≤ 200001) :
    Calls Tryd.prog 60 #[.pointer (some ⟨r, 0, none⟩), .string ⟨#[118, 100, 99]⟩, .slice o L.length c] w fun e w' => e = .returned (.int .i64 ((feedT T 0 L).1 : Int)) ∧ RD w' base r m (feedT T 0 L).2 ∧ KpR base r m w w' := by
  obtain ⟨i0, hi, hz0, hz1, hz2⟩ := info_parts infoU8
  have HT := hide hT
  obtain ⟨hrb, hmb, hrm, hbs, vp, s0, s1, s2, ve, Q, hB, hM, hS⟩ := hT
  have hN := bytes_calls o c L w hL (by omega) hx
  have HB := hide hB
  have HM := hide hM
  have HS := hide hS
  have HN := hide hbn
  clear hB hM hS hL hx hbn
  go_enter Tryd.func60, Tryd.ntmps60
  go_wp2_with fail
  refine hN.mono ?_
  clear hN
  rintro e w2 ⟨hb2, (⟨v, l, hl, hne, rfl, hown⟩ | ⟨hbad, rfl⟩)⟩
  · obtain ⟨a, l', rfl⟩ : ∃ a l', l = a :: l' := by cases l with | nil => exact absurd rfl hne | cons a l' => exact ⟨a, l', rfl⟩
    have hll := byL_len _ _ hl
    have e1 : feedT T 0 L = (0, { T with f0 := T.f0 ++ a :: l' }) := by unfold feedT; rw [hl]; rfl
    have E1 := hide e1
    obtain ⟨gb, cb, cur, rfl, _⟩ := own1_row hown (by simp)
    have hB2 : Hid (Blk w2 r 63 (rdR m vp s0 s1 s2 ve)) := HB.out.below hb2 HB.out.lt
    have hS2 : Hid (SL w2 base vp s0 s1 s2 ve Q T) := HS.out.below hb2 (Nat.le_refl _)
    have hM2 : Hid (MetB w2 m T.pg T.bd) := HM.out.same (hb2.block m (by omega))
    have hbs2 := Nat.le_trans hbs hb2.size
    have hk : w2.cell? ⟨r, 2, none⟩ = some s0 := hB2.out.cell 2
    have hfl := HN.out.a0
    have HO := hide hown
    have hqb : (a :: l').length ≤ 200001 := by omega
    have hfz := hB2.out.frozen 2
    clear e1 hl hne hown hll
    generalize hql : (a :: l').length = ql at *
    go_wp2_with (at_builtin; refine wpList_append_lies _ rfl _ _ 22 rfl base 5 i0 (.int .u8 0) 1 1 Tryd.underlying22 hi hz0 hz1 hz2 rfl (by decide) s0 T.f0.length (T.f0.map nV) rfl hS2.out.r0 ⟨gb, 0, none⟩ ql cb ((a :: l').map nV) rfl (by rw [List.length_map]; omega) (own_news HO.out) (nV_one _) (by rw [← hql]; simp) (by unfold maxLen; omega) (by omega) hbs2 w2.heap.size rfl ?_; intro g cap w3 q1 q2 q3 q4; obtain ⟨p1, _, p3, p4, p5⟩ := hd_put hB2.out hrb hbs2 q2 hS2.out.of0.1 2 (.slice (some ⟨g, 0, none⟩) (T.f0.length + ql) cap); replace p3 : w3.cell? ⟨r, 2, none⟩ = some s0 := p3)
    go_ret
    rw [E1.out]
    subst hql
    exact ⟨rfl, ⟨hrb, hmb, hrm, p5, vp, _, s1, s2, ve, Q, p1, hM2.out.same (hd_m hmb hrm hbs2 q2 hS2.out.of0.1), (SL.feed0 hS2.out q1 q2 q3).setCell ⟨r, 2, none⟩ hrb _⟩, (KpR.ofB hb2 hbs).trans (KpR.put hbs2 q2 hS2.out.ofC.1 hB2.out)⟩
  · have e1 : feedT T 0 L = (3, T) := by
      unfold feedT
      cases hq : byL L with
      | none => rfl
      | some l => rw [hbad l hq]
    have E1 := hide e1
    clear e1 hbad
    go_wp2_with fail
    go_ret
    rw [E1.out]
    exact ⟨rfl, HT.out.low hb2, KpR.ofB hb2 hbs⟩
set_option maxRecDepth 100000 in
set_option maxHeartbeats 8000000 in
theorem rfeed1 (base r m c : Nat) (o : Option Addr) (L : List (List UInt8)) (T : Tl) (w : World) (hT : RD w base r m T) (hbn : T.bnd 200001) (hL : WsAt w o L) (hn : L.length ≤ 200000) (hx : ∀ x ∈ L, x.length ≤ 200001) :
    Calls Tryd.prog 60 #[.pointer (some ⟨r, 0, none⟩), .string ⟨#[118, 99, 101]⟩, .slice o L.length c] w fun e w' => e = .returned (.int .i64 ((feedT T 1 L).1 : Int)) ∧ RD w' base r m (feedT T 1 L).2 ∧ KpR base r m w w' := by
  obtain ⟨i0, hi, hz0, hz1, hz2⟩ := info_parts infoU8
  have HT := hide hT
  obtain ⟨hrb, hmb, hrm, hbs, vp, s0, s1, s2, ve, Q, hB, hM, hS⟩ := hT
  have hN := bytes_calls o c L w hL (by omega) hx
  have HB := hide hB
  have HM := hide hM
  have HS := hide hS
  have HN := hide hbn
  clear hB hM hS hL hx hbn
  go_enter Tryd.func60, Tryd.ntmps60
  go_wp2_with fail
  refine hN.mono ?_
  clear hN
  rintro e w2 ⟨hb2, (⟨v, l, hl, hne, rfl, hown⟩ | ⟨hbad, rfl⟩)⟩
  · obtain ⟨a, l', rfl⟩ : ∃ a l', l = a :: l' := by cases l with | nil => exact absurd rfl hne | cons a l' => exact ⟨a, l', rfl⟩
    have hll := byL_len _ _ hl
    have e1 : feedT T 1 L = (0, { T with f1 := T.f1 ++ a :: l' }) := by unfold feedT; rw [hl]; rfl
    have E1 := hide e1
    obtain ⟨gb, cb, cur, rfl, _⟩ := own1_row hown (by simp)
    have hB2 : Hid (Blk w2 r 63 (rdR m vp s0 s1 s2 ve)) := HB.out.below hb2 HB.out.lt
    have hS2 : Hid (SL w2 base vp s0 s1 s2 ve Q T) := HS.out.below hb2 (Nat.le_refl _)
    have hM2 : Hid (MetB w2 m T.pg T.bd) := HM.out.same (hb2.block m (by omega))
    have hbs2 := Nat.le_trans hbs hb2.size
    have hk : w2.cell? ⟨r, 3, none⟩ = some s1 := hB2.out.cell 3
    have hfl := HN.out.a1
    have HO := hide hown
    have hqb : (a :: l').length ≤ 200001 := by omega
    have hfz := hB2.out.frozen 3
    clear e1 hl hne hown hll
    generalize hql : (a :: l').length = ql at *
    go_wp2_with (at_builtin; refine wpList_append_lies _ rfl _ _ 22 rfl base 5 i0 (.int .u8 0) 1 1 Tryd.underlying22 hi hz0 hz1 hz2 rfl (by decide) s1 T.f1.length (T.f1.map nV) rfl hS2.out.r1 ⟨gb, 0, none⟩ ql cb ((a :: l').map nV) rfl (by rw [List.length_map]; omega) (own_news HO.out) (nV_one _) (by rw [← hql]; simp) (by unfold maxLen; omega) (by omega) hbs2 w2.heap.size rfl ?_; intro g cap w3 q1 q2 q3 q4; obtain ⟨p1, _, p3, p4, p5⟩ := hd_put hB2.out hrb hbs2 q2 hS2.out.of0.2.1 3 (.slice (some ⟨g, 0, none⟩) (T.f1.length + ql) cap); replace p3 : w3.cell? ⟨r, 3, none⟩ = some s1 := p3)
    go_ret
    rw [E1.out]
    subst hql
    exact ⟨rfl, ⟨hrb, hmb, hrm, p5, vp, s0, _, s2, ve, Q, p1, hM2.out.same (hd_m hmb hrm hbs2 q2 hS2.out.of0.2.1), (SL.feed1 hS2.out q1 q2 q3).setCell ⟨r, 3, none⟩ hrb _⟩, (KpR.ofB hb2 hbs).trans (KpR.put hbs2 q2 hS2.out.ofC.2.1 hB2.out)⟩
  · have e1 : feedT T 1 L = (3, T) := by
      unfold feedT
      cases hq : byL L with
      | none => rfl
      | some l => rw [hbad l hq]
    have E1 := hide e1
    clear e1 hbad
    go_wp2_with fail
    go_ret
    rw [E1.out]
    exact ⟨rfl, HT.out.low hb2, KpR.ofB hb2 hbs⟩
set_option maxRecDepth 100000 in
set_option maxHeartbeats 8000000 in
theorem rfeed2 (base r m c : Nat) (o : Option Addr) (L : List (List UInt8)) (T : Tl) (w : World) (hT : RD w base r m T) (hbn : T.bnd 200001) (hL : WsAt w o L) (hn : L.length ≤ 200000) (hx : ∀ x ∈ L, x.length ≤ 200001) :
    Calls Tryd.prog 60 #[.pointer (some ⟨r, 0, none⟩), .string ⟨#[112, 111, 114, 116]⟩, .slice o L.length c] w fun e w' => e = .returned (.int .i64 ((feedT T 2 L).1 : Int)) ∧ RD w' base r m (feedT T 2 L).2 ∧ KpR base r m w w' := by
  obtain ⟨i0, hi, hz0, hz1, hz2⟩ := info_parts infoU8
  have HT := hide hT
  obtain ⟨hrb, hmb, hrm, hbs, vp, s0, s1, s2, ve, Q, hB, hM, hS⟩ := hT
  have hN := bytes_calls o c L w hL (by omega) hx
  have HB := hide hB
  have HM := hide hM
  have HS := hide hS
  have HN := hide hbn
  clear hB hM hS hL hx hbn
  go_enter Tryd.func60, Tryd.ntmps60
  go_wp2_with fail
  refine hN.mono ?_
  clear hN
  rintro e w2 ⟨hb2, (⟨v, l, hl, hne, rfl, hown⟩ | ⟨hbad, rfl⟩)⟩
  · obtain ⟨a, l', rfl⟩ : ∃ a l', l = a :: l' := by cases l with | nil => exact absurd rfl hne | cons a l' => exact ⟨a, l', rfl⟩
    have hll := byL_len _ _ hl
    have e1 : feedT T 2 L = (0, { T with f2 := T.f2 ++ a :: l' }) := by unfold feedT; rw [hl]; rfl
    have E1 := hide e1
    obtain ⟨gb, cb, cur, rfl, _⟩ := own1_row hown (by simp)
    have hB2 : Hid (Blk w2 r 63 (rdR m vp s0 s1 s2 ve)) := HB.out.below hb2 HB.out.lt
    have hS2 : Hid (SL w2 base vp s0 s1 s2 ve Q T) := HS.out.below hb2 (Nat.le_refl _)
    have hM2 : Hid (MetB w2 m T.pg T.bd) := HM.out.same (hb2.block m (by omega))
    have hbs2 := Nat.le_trans hbs hb2.size
    have hk : w2.cell? ⟨r, 4, none⟩ = some s2 := hB2.out.cell 4
    have hfl := HN.out.a2
    have HO := hide hown
    have hqb : (a :: l').length ≤ 200001 := by omega
    have hfz := hB2.out.frozen 4
    clear e1 hl hne hown hll
    generalize hql : (a :: l').length = ql at *
    go_wp2_with (at_builtin; refine wpList_append_lies _ rfl _ _ 22 rfl base 5 i0 (.int .u8 0) 1 1 Tryd.underlying22 hi hz0 hz1 hz2 rfl (by decide) s2 T.f2.length (T.f2.map nV) rfl hS2.out.r2 ⟨gb, 0, none⟩ ql cb ((a :: l').map nV) rfl (by rw [List.length_map]; omega) (own_news HO.out) (nV_one _) (by rw [← hql]; simp) (by unfold maxLen; omega) (by omega) hbs2 w2.heap.size rfl ?_; intro g cap w3 q1 q2 q3 q4; obtain ⟨p1, _, p3, p4, p5⟩ := hd_put hB2.out hrb hbs2 q2 hS2.out.of0.2.2.1 4 (.slice (some ⟨g, 0, none⟩) (T.f2.length + ql) cap); replace p3 : w3.cell? ⟨r, 4, none⟩ = some s2 := p3)
    go_ret
    rw [E1.out]
    subst hql
    exact ⟨rfl, ⟨hrb, hmb, hrm, p5, vp, s0, s1, _, ve, Q, p1, hM2.out.same (hd_m hmb hrm hbs2 q2 hS2.out.of0.2.2.1), (SL.feed2 hS2.out q1 q2 q3).setCell ⟨r, 4, none⟩ hrb _⟩, (KpR.ofB hb2 hbs).trans (KpR.put hbs2 q2 hS2.out.ofC.2.2.1 hB2.out)⟩
  · have e1 : feedT T 2 L = (3, T) := by
      unfold feedT
      cases hq : byL L with
      | none => rfl
      | some l => rw [hbad l hq]
    have E1 := hide e1
    clear e1 hbad
    go_wp2_with fail
    go_ret
    rw [E1.out]
    exact ⟨rfl, HT.out.low hb2, KpR.ofB hb2 hbs⟩
set_option maxRecDepth 100000 in
set_option maxHeartbeats 8000000 in
theorem rrom_calls (base r m c : Nat) (o : Option Addr) (R : List (List UInt8)) (T : Tl) (w : World) (hT : RD w base r m T) (hbn : T.bnd 200001) (hL : WsAt w o R) (hn : R.length ≤ 200000) (hcap : R.length ≤ c) (hx : ∀ x ∈ R, x.length ≤ 200001) :
    Calls Tryd.prog 59 #[.pointer (some ⟨r, 0, none⟩), .slice o R.length c] w fun e w' => e = .returned (.int .i64 ((romT T R).1 : Int)) ∧ RD w' base r m (romT T R).2 ∧ KpR base r m w w' := by
  obtain ⟨i1, hi, hz0, hz1, hz2⟩ := info_parts infoPie
  have HT := hide hT
  obtain ⟨hrb, hmb, hrm, hbs, vp, s0, s1, s2, ve, Q, hB, hM, hS⟩ := hT
  have HB := hide hB
  have HM := hide hM
  have HS := hide hS
  have HN := hide hbn
  clear hB hM hS hbn
  match R with
  | [] =>
    have e1 : romT T [] = (3, T) := rfl
    rw [e1]
    clear e1 hL
    go_enter Tryd.func59, Tryd.ntmps59
    go_wp2_with fail
    go_ret
    exact ⟨rfl, HT.out, KpR.refl _ _ _ _⟩
  | [a] =>
    have e1 : romT T [a] = (3, T) := rfl
    rw [e1]
    clear e1 hL
    go_enter Tryd.func59, Tryd.ntmps59
    go_wp2_with fail
    go_ret
    exact ⟨rfl, HT.out, KpR.refl _ _ _ _⟩
  | a :: x :: t =>
    have hLr := hL
    obtain ⟨b, off, rfl, hbl, hc1, _⟩ := tnumA (r := r) hL
    have hdr : WsAt w (some ⟨b, off + 1, none⟩) (x :: t) := hLr.drop (k := 1)
    have hsz := strS a
    have hal : a.length ≤ 200001 := hx a (by simp)
    have hxt : ∀ y ∈ x :: t, y.length ≤ 200001 := fun y hy => hx y (by simp at hy ⊢; exact Or.inr hy)
    rw [List.length_cons, List.length_cons] at hcap hn ⊢
    clear hLr hx hL
    have n3 : (decide (((t.length + 1 + 1 : Nat) : Int) < 2)) = false := decide_eq_false (by omega)
    by_cases h6 : a.length = 6
    · have h66 : ((a.length : Int) != 6) = false := by rw [h6]; rfl
      have hF := octFromHex_calls ⟨a.toArray⟩ w (by rw [strS]; unfold maxLen; omega)
      rw [strT] at hF
      have c1 : ¬ (1 = c) := by omega
      have c2 : ¬ (c = 1) := by omega
      have H6 := hide h6
      clear h6
      go_enter Tryd.func59, Tryd.ntmps59
      go_wp2_with fail
      refine hF.mono ?_
      rintro e w2 ⟨rfl, rfl⟩
      have hN := bytes_calls (some ⟨b, off + 1, none⟩) (c - 1) (x :: t) w hdr (by simp at hn ⊢; omega) hxt
      rw [List.length_cons] at hN
      clear hF hdr hxt
      have hfl := fh_lt a
      have hw : IntKind.i64.wrap ((fh a).1 : Int) = ((fh a).1 : Int) := by rw [IntKind.wrap_i64]; omega
      unfold fhV
      go_wp2_with fail
      refine hN.mono ?_
      clear hN
      rintro e w3 ⟨hb3, (⟨v, l, hl, hne, rfl, hown⟩ | ⟨hbad, rfl⟩)⟩
      · by_cases he : (fh a).2 = 0
        · have hz : (((fh a).2 : Int) != 0) = false := by rw [he]; rfl
          have E1 := hide (romT_ok (T := T) H6.out he hl)
          obtain ⟨gb, cb, cur, rfl, _⟩ := own1_row hown (by cases l with | nil => exact absurd rfl hne | cons a l' => simp)
          have d0 : Hid (s0.ownBlock ≠ some gb) := own_fresh HS.out.r0 hown
          have d1 : Hid (s1.ownBlock ≠ some gb) := own_fresh HS.out.r1 hown
          have d2 : Hid (s2.ownBlock ≠ some gb) := own_fresh HS.out.r2 hown
          have hB3 : Hid (Blk w3 r 63 (rdR m vp s0 s1 s2 ve)) := HB.out.below hb3 HB.out.lt
          have hS3 : Hid (SL w3 base vp s0 s1 s2 ve Q T) := HS.out.below hb3 (Nat.le_refl _)
          have hM3 : Hid (MetB w3 m T.pg T.bd) := HM.out.same (hb3.block m (by omega))
          have hbs3 := Nat.le_trans hbs hb3.size
          have hk : w3.cell? ⟨r, 1, none⟩ = some vp := hB3.out.cell 1
          have hfz := hB3.out.frozen 1
          have hql0 : Hid (Q.length ≤ 200001) := by
            have h := HN.out.ap
            rw [HS.out.ps, List.length_map] at h
            exact h
          have hQ := hql0.out
          have HO := hide hown
          clear he hl hne hown hc1
          obtain ⟨ql, hql⟩ : ∃ ql, l.length = ql := ⟨_, rfl⟩
          rw [hql] at HO ⊢
          have hB4 : Hid (Blk (w3.alloc (.cells #[Value.int .i64 ((fh a).1 : Int), Value.slice (some ⟨gb, 0, none⟩) ql cb] 88)) r 63 (rdR m vp s0 s1 s2 ve)) := hB3.out.alloc _
          have hS4 : Hid (SL (w3.alloc (.cells #[Value.int .i64 ((fh a).1 : Int), Value.slice (some ⟨gb, 0, none⟩) ql cb] 88)) base vp s0 s1 s2 ve Q T) := hS3.out.below (Bl.alloc (Below.refl _ _) _) (Nat.le_refl _)
          have hM4 : Hid (MetB (w3.alloc (.cells #[Value.int .i64 ((fh a).1 : Int), Value.slice (some ⟨gb, 0, none⟩) ql cb] 88)) m T.pg T.bd) := hM3.out.same ((Bl.alloc (Below.refl w3.heap.size w3) (.cells #[Value.int .i64 ((fh a).1 : Int), Value.slice (some ⟨gb, 0, none⟩) ql cb] 88)).block m (by omega))
          have hbs4 : base ≤ (w3.alloc (.cells #[Value.int .i64 ((fh a).1 : Int), Value.slice (some ⟨gb, 0, none⟩) ql cb] 88)).heap.size := by simp; omega
          have HQ := hide hql
          clear hql
          go_wp2_with (at_builtin; refine wpList_append_lies _ rfl _ _ 61 rfl base 88 i1 (.agg #[.int .i64 0, .slice none 0 0]) 2 32 Tryd.underlying61 hi hz0 hz1 hz2 rfl (by decide) vp Q.length (psC Q) rfl hS4.out.rp ⟨w3.heap.size, 0, none⟩ 1 1 [Value.int .i64 ((fh a).1 : Int), Value.slice (some ⟨gb, 0, none⟩) ql cb] rfl rfl (World.news_of_block (cs := #[Value.int .i64 ((fh a).1 : Int), Value.slice (some ⟨gb, 0, none⟩) ql cb]) (t := 88) (fr := (0, 0)) (heap_alloc_new w3 _)) (by simp [Value.oneCell']) (by decide) (by unfold maxLen; omega) (by omega) hbs4 _ rfl ?_; intro g cap w4 q1 q2 q3 q4; obtain ⟨p1, _, p3, p4, p5⟩ := hd_put hB4.out hrb hbs4 q2 hS4.out.of0.2.2.2.2 1 (.slice (some ⟨g, 0, none⟩) (Q.length + 1) cap); replace p3 : w4.cell? ⟨r, 1, none⟩ = some vp := p3)
          go_ret
          rw [E1.out]
          obtain rfl := HQ.out
          exact ⟨rfl, ⟨hrb, hmb, hrm, p5, _, s0, s1, s2, ve, Q ++ [⟨(fh a).1, l, gb, cb⟩], p1, hM4.out.same (hd_m hmb hrm hbs4 q2 hS4.out.of0.2.2.2.2), (SL.piece (q := ⟨(fh a).1, l, gb, cb⟩) hS4.out (World.ownsRow.alloc (own_base HO.out hbs) _) d0.out d1.out d2.out q1 q2).setCell ⟨r, 1, none⟩ hrb _⟩, ((KpR.ofB hb3 hbs).trans (KpR.ofB (Bl.alloc (Below.refl _ _) _) hbs3)).trans (KpR.put hbs4 q2 hS4.out.ofC.2.2.2.2 hB4.out)⟩
        · have hz : (((fh a).2 : Int) != 0) = true := by rw [bne_iff_ne]; omega
          have E1 := hide (romT_bad (T := T) (x := x) (t := t) (fun h => he h.2))
          clear he hl hne hown
          go_wp2_with fail
          go_ret
          rw [E1.out]
          exact ⟨rfl, HT.out.low hb3, KpR.ofB hb3 hbs⟩
      · have E1 := hide (romT_none (T := T) (a := a) hbad)
        clear hbad
        by_cases he : (fh a).2 = 0
        · have hz : (((fh a).2 : Int) != 0) = false := by rw [he]; rfl
          clear he
          go_wp2_with fail
          go_ret
          rw [E1.out]
          exact ⟨rfl, HT.out.low hb3, KpR.ofB hb3 hbs⟩
        · have hz : (((fh a).2 : Int) != 0) = true := by rw [bne_iff_ne]; omega
          clear he
          go_wp2_with fail
          go_ret
          rw [E1.out]
          exact ⟨rfl, HT.out.low hb3, KpR.ofB hb3 hbs⟩
    · have h66 : ((a.length : Int) != 6) = true := by rw [bne_iff_ne]; omega
      have E1 := hide (romT_bad (T := T) (x := x) (t := t) (fun h => h6 h.1))
      clear h6
      go_enter Tryd.func59, Tryd.ntmps59
      go_wp2_with fail
      go_ret
      rw [E1.out]
      exact ⟨rfl, HT.out, KpR.refl _ _ _ _⟩
end Go.Proofs.YtdhdknjefjolpaaDoor
end
section
/-
  script.reader: edge.
-/
namespace Go.Proofs.YtdhdknjefjolpaaDoor
set_option linter.unusedSimpArgs false
set_option linter.unusedVariables false
set_option maxRecDepth 10000
open Go.RowKit Go.Shelf Pl
theorem names_calls (w : World) : Calls Tryd.prog 45 #[] w fun e w' => ∃ g, e = .returned (.slice (some ⟨g, 0, none⟩) 4 4) ∧ Blk w' g 9 #[Value.string ⟨#[114, 101, 115, 101, 116]⟩, .string ⟨#[110, 109, 105]⟩, .string ⟨#[105, 114, 113, 49]⟩, .string ⟨#[105, 114, 113, 50]⟩] ∧ Below w.heap.size w w' := by
  go_enter Tryd.func45, Tryd.ntmps45
  go_wp2_with fail
  go_ret
  exact ⟨_, rfl, Blk.new _ _ _, Bl.alloc (Below.refl _ _) _⟩
def nmS : List ByteArray := [⟨#[114, 101, 115, 101, 116]⟩, ⟨#[110, 109, 105]⟩, ⟨#[105, 114, 113, 49]⟩, ⟨#[105, 114, 113, 50]⟩]
def lnI (y : List UInt8) : Int := match lineK y with | some k => (k : Int) | none => -1
theorem nmS_get : ∀ j, j < 4 → nmS.getD j ByteArray.empty = ⟨(nmF j).toArray⟩ := fun j hj => by
  match j, hj with
  | 0, _ => rfl
  | 1, _ => rfl
  | 2, _ => rfl
  | 3, _ => rfl
theorem lineK_lt {y : List UInt8} {k : Nat} (h : lineK y = some k) : k < 4 ∧ nmF k = y := by
  unfold lineK at h
  split at h
  · cases h; rename_i e; exact ⟨by decide, e.symm⟩
  · split at h
    · cases h; rename_i e; exact ⟨by decide, e.symm⟩
    · split at h
      · cases h; rename_i e; exact ⟨by decide, e.symm⟩
      · split at h
        · cases h; rename_i e; exact ⟨by decide, e.symm⟩
        · cases h
theorem lineK_not {y : List UInt8} (h : lineK y = none) : ∀ j, j < 4 → nmF j ≠ y := fun j hj e => by
  subst e
  match j, hj with
  | 0, _ => cases h
  | 1, _ => cases h
  | 2, _ => cases h
  | 3, _ => cases h
theorem mkb_inj {x y : List UInt8} (h : (⟨x.toArray⟩ : ByteArray) = ⟨y.toArray⟩) : x = y := by
  injection h with h
  exact List.toArray_inj h
theorem nmF_inj : ∀ i, i < 4 → ∀ j, j < 4 → nmF i = nmF j → i = j := by decide
theorem idx_ln (y : List UInt8) : Lib.idxOfS nmS ⟨y.toArray⟩ = lnI y := by
  unfold lnI
  cases h : lineK y with
  | some k =>
    obtain ⟨hk, rfl⟩ := lineK_lt h
    have := Lib.idxFromS_hit ⟨(nmF k).toArray⟩ nmS k 0 hk (nmS_get k hk) fun j hj => by
      rw [nmS_get j (by omega)]
      intro e
      have := nmF_inj j (by omega) k hk (mkb_inj e)
      omega
    rw [Nat.zero_add] at this
    exact this
  | none =>
    refine Lib.idxFromS_miss _ nmS 0 fun j hj => ?_
    rw [nmS_get j hj]
    intro e
    exact lineK_not h j hj (mkb_inj e)
theorem lnIdx_calls (y : List UInt8) (g : Nat) (W : World) (hB : Blk W g 9 #[Value.string ⟨#[114, 101, 115, 101, 116]⟩, .string ⟨#[110, 109, 105]⟩, .string ⟨#[105, 114, 113, 49]⟩, .string ⟨#[105, 114, 113, 50]⟩]) : Calls Tryd.prog 80 #[.slice (some ⟨g, 0, none⟩) 4 4, .string ⟨y.toArray⟩] W fun e w' => e = .returned (.int .i64 (lnI y)) ∧ W = w' := by
  have h := Tryd.slices_Index_string g 0 4 4 nmS ⟨y.toArray⟩ W (Nat.le_refl _) (by decide) (fun j hj => by
    rw [Nat.zero_add, hB.cell j]
    match j, hj with
    | 0, _ => rfl
    | 1, _ => rfl
    | 2, _ => rfl
    | 3, _ => rfl)
  refine h.mono ?_
  rintro e w' ⟨rfl, rfl⟩
  exact ⟨by rw [← idx_ln]; rfl, rfl⟩
set_option maxRecDepth 100000 in
set_option maxHeartbeats 8000000 in
theorem redge_calls (base r m c : Nat) (o : Option Addr) (up : Bool) (L : List (List UInt8)) (T : Tl) (w : World) (hT : RD w base r m T) (hbn : T.bnd 200001) (hL : WsAt w o L) (hcap : L.length ≤ c) :
    Calls Tryd.prog 61 #[.pointer (some ⟨r, 0, none⟩), .bool up, .slice o L.length c] w fun e w' => e = .returned (.int .i64 ((edgeT T up L).1 : Int)) ∧ RD w' base r m (edgeT T up L).2 ∧ KpR base r m w w' := by
  obtain ⟨i1, hi, hz0, hz1, hz2⟩ := info_parts infoEd
  have HT := hide hT
  obtain ⟨hrb, hmb, hrm, hbs, vp, s0, s1, s2, ve, Q, hB, hM, hS⟩ := hT
  have HB := hide hB
  have HM := hide hM
  have HS := hide hS
  have HN := hide hbn
  clear hB hM hS hbn
  by_cases h2 : L.length = 2
  · obtain ⟨x, y, rfl⟩ : ∃ x y, L = [x, y] := by
      match L, h2 with
      | [x, y], _ => exact ⟨x, y, rfl⟩
    obtain ⟨b, off, rfl, hbl, hc⟩ := hL.addr (by simp)
    have hy : w.cell? ⟨b, off + 1, none⟩ = some (.string ⟨y.toArray⟩) := hc 1 y rfl
    have hN := number_calls (some ⟨b, off, none⟩) c [x] w (hL.take (k := 1)) (by simp)
    have hcc : 2 ≤ c := hcap
    have cc1 : (1 : Int) ≤ (c : Int) := by omega
    have cc2 : 1 ≤ c := by omega
    clear h2 hL hc hcap
    by_cases he : (numV x).2 = 0
    · have hnl : numL [x] = ((numV x).1, 0) := by unfold numL; dsimp only; rw [if_neg (by omega)]
      rw [hnl] at hN
      have HE := hide he
      clear he hnl
      go_enter Tryd.func61, Tryd.ntmps61
      go_wp2_with fail
      refine hN.mono ?_
      clear hN
      rintro e w2 ⟨rfl, hb2⟩
      have hy2 := (hb2.cell (cell_lt hy)).trans hy
      clear hy
      go_wp2_with fail
      refine wp_region_held_drew (S := fun W => W.cell? ⟨b, off + 1, none⟩ = some (.string ⟨y.toArray⟩) ∧ Below w.heap.size w W) (by kernel_rfl) ⟨(by first | exact hy2.drew | exact hy2 | exact Below.drew hy2), (by first | exact hb2.drew | exact hb2 | exact Below.drew hb2)⟩ (fun hS0 => ?_)
      clear hy2 hb2
      change wpAnyH _ _ _ _ _ 6 #[false, false, false, false, false, false] _ _
      generalize w2.drew = v0 at *
      refine wpAnyH_take (i := 1) (v := ?_) rfl (by kernel_rfl) (by kernel_rfl) (by kernel_rfl) (fun _ _ _ h => h) (Or.inl ⟨by rfl, ?_⟩) hS0 ?_
      rotate_left
      · (intro w hSw; (try dsimp only at hSw); go_simp; try with_reducible rfl)
      simp only [List.getElem_toArray, List.getElem_cons_zero, List.getElem_cons_succ, Act.put, List.setIfInBounds_toArray, List.set_cons_zero, List.set_cons_succ]
      refine wpAnyH_take (i := 2) (v := ?_) rfl (by kernel_rfl) (by kernel_rfl) (by kernel_rfl) (fun _ _ _ h => h) (Or.inl ⟨by rfl, ?_⟩) hS0 ?_
      rotate_left
      · (intro w hSw; (try dsimp only at hSw); go_simp; try with_reducible rfl)
      simp only [List.getElem_toArray, List.getElem_cons_zero, List.getElem_cons_succ, Act.put, List.setIfInBounds_toArray, List.set_cons_zero, List.set_cons_succ]
      refine wpAnyH_take (i := 3) (v := ?_) rfl (by kernel_rfl) (by kernel_rfl) (by kernel_rfl) (fun _ _ _ h => h) (Or.inl ⟨by rfl, ?_⟩) hS0 ?_
      rotate_left
      · (intro w hSw; (try dsimp only at hSw); go_simp; try with_reducible rfl)
      simp only [List.getElem_toArray, List.getElem_cons_zero, List.getElem_cons_succ, Act.put, List.setIfInBounds_toArray, List.set_cons_zero, List.set_cons_succ]
      refine wpAnyH_ready (rs := [0]) (by kernel_rfl) (by simp) ?_
      refine AllReadyH.cons rfl (fun K hK => ?_) AllReadyH.nil
      go_simp
      refine (names_calls _).mono ?_
      rintro e v1 ⟨gN, rfl, hNm, hb1⟩
      (try go_simp)
      refine hK.out _ _ ⟨(by first | exact hS0.1.below hb1 hS0.1.lt | exact hS0.1.trans (hb1.mono hS0.1.size) | exact hS0.1.trans (hb1.mono (by have := hS0.1.size; omega)) | exact (hb1.cell (cell_lt hS0.1)).trans hS0.1 | exact hS0.1.below hb1 (Nat.le_refl _) | exact hS0.1.low hb1 | exact hS0.1.below hb1 | exact hS0.1.trans (Only.of hb1)), (by first | exact hS0.2.below hb1 hS0.2.lt | exact hS0.2.trans (hb1.mono hS0.2.size) | exact hS0.2.trans (hb1.mono (by have := hS0.2.size; omega)) | exact (hb1.cell (cell_lt hS0.2)).trans hS0.2 | exact hS0.2.below hb1 (Nat.le_refl _) | exact hS0.2.low hb1 | exact hS0.2.below hb1 | exact hS0.2.trans (Only.of hb1))⟩ (fun hS1 => ?_)
      clear hK K
      have hT : v1.cell? ⟨b, off + 1, none⟩ = some (.string ⟨y.toArray⟩) ∧ Below w.heap.size w v1 ∧ Blk v1 gN 9 #[Value.string ⟨#[114, 101, 115, 101, 116]⟩, .string ⟨#[110, 109, 105]⟩, .string ⟨#[105, 114, 113, 49]⟩, .string ⟨#[105, 114, 113, 50]⟩] := ⟨hS1.1, hS1.2, hNm⟩
      refine wpAnyH_mono (S' := fun W => W.cell? ⟨b, off + 1, none⟩ = some (.string ⟨y.toArray⟩) ∧ Below w.heap.size w W ∧ Blk W gN 9 #[Value.string ⟨#[114, 101, 115, 101, 116]⟩, .string ⟨#[110, 109, 105]⟩, .string ⟨#[105, 114, 113, 49]⟩, .string ⟨#[105, 114, 113, 50]⟩]) (fun _ h => ⟨h.1, h.2.1⟩) ?_
      clear hS1
      have hS1 := hT
      clear hT
      clear hb1 hS0
      simp only [List.getElem_toArray, List.getElem_cons_zero, List.getElem_cons_succ, Act.put, List.setIfInBounds_toArray, List.set_cons_zero, List.set_cons_succ]
      refine wpAnyH_ready (rs := [4]) (by kernel_rfl) (by simp) ?_
      refine AllReadyH.cons rfl (fun K hK => ?_) AllReadyH.nil
      go_simp
      refine (lnIdx_calls y gN _ hS1.2.2).mono ?_
      rintro e w' ⟨rfl, rfl⟩
      (try go_simp)
      refine hK.out _ _ hS1 (fun _ => ?_)
      clear hK K
      simp only [List.getElem_toArray, List.getElem_cons_zero, List.getElem_cons_succ, Act.put, List.setIfInBounds_toArray, List.set_cons_zero, List.set_cons_succ]
      refine wpAnyH_take (i := 5) (v := ?_) rfl (by kernel_rfl) (by kernel_rfl) (by kernel_rfl) (fun _ _ _ h => h) (Or.inl ⟨by rfl, ?_⟩) hS1 ?_
      rotate_left
      · (intro w hSw; (try dsimp only at hSw); go_simp; try with_reducible rfl)
      simp only [List.getElem_toArray, List.getElem_cons_zero, List.getElem_cons_succ, Act.put, List.setIfInBounds_toArray, List.set_cons_zero, List.set_cons_succ]
      refine wpAnyH_done (by kernel_rfl) ?_ _
      have hy2 := hS1.1
      have hb2 := hS1.2.1
      have hNm := hS1.2.2
      clear hS1
      clear hNm hy2
      cases hk : lineK y with
      | none =>
        have hv : lnI y = -1 := by unfold lnI; rw [hk]
        have E1 := hide (edgeT_no (T := T) (up := up) HE.out hk)
        rw [hv]
        have d1 : (decide ((-1 : Int) < 0)) = true := rfl
        clear hk hv
        go_wp2_with fail
        go_ret
        rw [E1.out]
        exact ⟨rfl, HT.out.low hb2, KpR.ofB hb2 hbs⟩
      | some k =>
        have hv : lnI y = (k : Int) := by unfold lnI; rw [hk]
        have E1 := hide (edgeT_ok (T := T) (up := up) HE.out hk)
        rw [hv]
        have hk4 := (lineK_lt hk).1
        have d1 : (decide ((k : Int) < 0)) = false := decide_eq_false (by omega)
        have hw : IntKind.u8.wrap (k : Int) = (k : Int) := by rw [IntKind.wrap_u8]; omega
        clear hk hv
        generalize v1 = w3 at *
        have hB3 : Hid (Blk w3 r 63 (rdR m vp s0 s1 s2 ve)) := HB.out.below hb2 HB.out.lt
        have hS3 : Hid (SL w3 base vp s0 s1 s2 ve Q T) := HS.out.below hb2 (Nat.le_refl _)
        have hM3 : Hid (MetB w3 m T.pg T.bd) := HM.out.same (hb2.block m (by omega))
        have hbs3 := Nat.le_trans hbs hb2.size
        have hkc : w3.cell? ⟨r, 5, none⟩ = some ve := hB3.out.cell 5
        have hfz := hB3.out.frozen 5
        have hQ := HN.out.ae
        have hB4 : Hid (Blk (w3.alloc (.cells #[Value.int .i64 ((numV x).1 : Int), Value.int .u8 (k : Int), Value.bool up] 31)) r 63 (rdR m vp s0 s1 s2 ve)) := hB3.out.alloc _
        have hS4 : Hid (SL (w3.alloc (.cells #[Value.int .i64 ((numV x).1 : Int), Value.int .u8 (k : Int), Value.bool up] 31)) base vp s0 s1 s2 ve Q T) := hS3.out.below (Bl.alloc (Below.refl _ _) _) (Nat.le_refl _)
        have hM4 : Hid (MetB (w3.alloc (.cells #[Value.int .i64 ((numV x).1 : Int), Value.int .u8 (k : Int), Value.bool up] 31)) m T.pg T.bd) := hM3.out.same ((Bl.alloc (Below.refl w3.heap.size w3) (.cells #[Value.int .i64 ((numV x).1 : Int), Value.int .u8 (k : Int), Value.bool up] 31)).block m (by omega))
        have hbs4 : base ≤ (w3.alloc (.cells #[Value.int .i64 ((numV x).1 : Int), Value.int .u8 (k : Int), Value.bool up] 31)).heap.size := by simp; omega
        have HB2 := hide hb2
        clear hb2
        go_wp2_with (at_builtin; refine wpList_append_lies _ rfl _ _ 25 rfl base 31 i1 _ 3 16 Tryd.underlying25 hi hz0 hz1 hz2 rfl (by decide) ve T.ed.length (edC T.ed) rfl hS4.out.re ⟨w3.heap.size, 0, none⟩ 1 1 [Value.int .i64 ((numV x).1 : Int), Value.int .u8 (k : Int), Value.bool up] rfl rfl (World.news_of_block (cs := #[Value.int .i64 ((numV x).1 : Int), Value.int .u8 (k : Int), Value.bool up]) (t := 31) (fr := (0, 0)) (heap_alloc_new w3 _)) (by simp [Value.oneCell']) (by decide) (by unfold maxLen; omega) (by omega) hbs4 _ rfl ?_; intro g cap w4 q1 q2 q3 q4; obtain ⟨p1, _, p3, p4, p5⟩ := hd_put hB4.out hrb hbs4 q2 hS4.out.of0.2.2.2.1 5 (.slice (some ⟨g, 0, none⟩) (T.ed.length + 1) cap); replace p3 : w4.cell? ⟨r, 5, none⟩ = some ve := p3)
        go_ret
        rw [E1.out]
        exact ⟨rfl, ⟨hrb, hmb, hrm, p5, vp, s0, s1, s2, _, Q, p1, hM4.out.same (hd_m hmb hrm hbs4 q2 hS4.out.of0.2.2.2.1), (SL.edge (e := ((numV x).1, k, up)) hS4.out q1 q2).setCell ⟨r, 5, none⟩ hrb _⟩, ((KpR.ofB HB2.out hbs).trans (KpR.ofB (Bl.alloc (Below.refl _ _) _) hbs3)).trans (KpR.put hbs4 q2 hS4.out.ofC.2.2.2.1 hB4.out)⟩
    · have hnl : numL [x] = (0, 3) := by unfold numL; dsimp only; rw [if_pos he]
      rw [hnl] at hN
      have E1 := hide (edgeT_num (T := T) (up := up) (b := y) he)
      clear he hnl
      go_enter Tryd.func61, Tryd.ntmps61
      go_wp2_with fail
      refine hN.mono ?_
      clear hN
      rintro e w2 ⟨rfl, hb2⟩
      go_wp2_with fail
      go_ret
      rw [E1.out]
      exact ⟨rfl, HT.out.low hb2, KpR.ofB hb2 hbs⟩
  · have E1 : edgeT T up L = (3, T) := by
      unfold edgeT
      split
      · simp at h2
      · rfl
    rw [E1]
    have hz : ((L.length : Int) != 2) = true := by rw [bne_iff_ne]; omega
    clear E1 h2 hL hcap
    generalize L.length = n at *
    go_enter Tryd.func61, Tryd.ntmps61
    go_wp2_with fail
    go_ret
    exact ⟨rfl, HT.out, KpR.refl _ _ _ _⟩
end Go.Proofs.YtdhdknjefjolpaaDoor
end
