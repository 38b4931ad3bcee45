/-
  The texts Sc15, Sc16, Sc17 of the proofs about scripts, as one file (they are merged by a program).
-/
import Derived.Test.YtdhdknjefjolpaaDoorA3
import Derived.Test.YtdhdknjefjolpaaDoorA1
import Derived.Test.YtdhdknjefjolpaaDoorA4
section
/-
  Bytes of words; a number alone.
-/
namespace Go.Proofs.YtdhdknjefjolpaaDoor
set_option linter.unusedSimpArgs false
set_option linter.unusedVariables false
set_option maxRecDepth 10000
open Go.RowKit Go.Shelf Pl
/-- Words in memory. -/
def WsAt (W : World) (o : Option Addr) (L : List (List UInt8)) : Prop := ∀ i x, L[i]? = some x → ∃ b off, o = some ⟨b, off, none⟩ ∧ b < W.heap.size ∧ W.cell? ⟨b, off + i, none⟩ = some (vS x)
theorem WsAt.low {W W' : World} {o : Option Addr} {L : List (List UInt8)} (h : WsAt W o L) (hb : Below W.heap.size W W') : WsAt W' o L := fun i x hx => by
  obtain ⟨b, off, e, hlt, hc⟩ := h i x hx
  exact ⟨b, off, e, Nat.lt_of_lt_of_le hlt hb.size, (World.cell?_of_block (hb.block b hlt)).trans hc⟩
theorem WsAt.addr {W : World} {o : Option Addr} {L : List (List UInt8)} (h : WsAt W o L) (hL : L ≠ []) : ∃ b off, o = some ⟨b, off, none⟩ ∧ b < W.heap.size ∧ ∀ i x, L[i]? = some x → W.cell? ⟨b, off + i, none⟩ = some (vS x) := by
  cases L with
  | nil => exact absurd rfl hL
  | cons y r =>
    obtain ⟨b, off, e, hlt, _⟩ := h 0 y rfl
    refine ⟨b, off, e, hlt, fun i x hx => ?_⟩
    obtain ⟨b', off', e', _, hc⟩ := h i x hx
    rw [e] at e'
    cases e'
    exact hc
theorem WsAt.drop {W : World} {b off k : Nat} {L : List (List UInt8)} (h : WsAt W (some ⟨b, off, none⟩) L) : WsAt W (some ⟨b, off + k, none⟩) (L.drop k) := fun i x hx => by
  rw [List.getElem?_drop] at hx
  obtain ⟨b', off', e, hlt, hc⟩ := h (k + i) x hx
  cases e
  exact ⟨b, off + k, rfl, hlt, by rw [Nat.add_assoc]; exact hc⟩
theorem WsAt.take {W : World} {o : Option Addr} {k : Nat} {L : List (List UInt8)} (h : WsAt W o L) : WsAt W o (L.take k) := fun i x hx => by
  rw [List.getElem?_take] at hx
  split at hx
  · exact h i x hx
  · cases hx
theorem WsAt.of_row {W : World} {base n : Nat} {v : Value} {L : List (List UInt8)} (h : W.ownsRow base 9 1 v n (L.map vS)) : ∃ o c, v = .slice o L.length c ∧ WsAt W o L := by
  have hl := h.1
  rw [List.length_map] at hl
  rcases h.2 with ⟨rfl, h0⟩ | ⟨g, cap, cur, rfl, hb, hh, _, _, _, ht⟩
  · have : L.length = 0 := by omega
    refine ⟨none, 0, by rw [this], fun i x hx => ?_⟩
    have := (List.getElem?_eq_some_iff.1 hx).1
    omega
  · refine ⟨some ⟨g, 0, none⟩, cap, by rw [hl, Nat.mul_one], fun i x hx => ⟨g, 0, rfl, Blk.lt (t := 9) (cs := cur) hh, ?_⟩⟩
    have hi := (List.getElem?_eq_some_iff.1 hx).1
    rw [Nat.zero_add, cell_of_row W g i cur 9 (0, 0) hh]
    have h1 : (cur.toList.take (n * 1))[i]? = (L.map vS)[i]? := by rw [ht]
    rw [List.getElem?_take_of_lt (by omega), List.getElem?_map, hx] at h1
    rw [← Array.getElem?_toList]
    exact h1
def nV (a : Nat) : Value := .int .u8 (a : Int)
/-- A byte of a word. -/
def byW (x : List UInt8) : Option Nat := if (fh x).2 = 0 ∧ x.length = 2 then some (fh x).1 else none
def byL : List (List UInt8) → Option (List Nat)
  | [] => some []
  | x :: r => match byW x with
    | none => none
    | some a => match byL r with
      | none => none
      | some l => some (a :: l)
theorem byL_append (l m : List (List UInt8)) : byL (l ++ m) = match byL l with | none => none | some a => match byL m with | none => none | some b => some (a ++ b) := by
  induction l with
  | nil => simp only [List.nil_append, byL]; cases byL m <;> rfl
  | cons x r ih =>
    rw [List.cons_append, byL, byL, ih]
    cases byW x with
    | none => rfl
    | some a =>
      cases byL r with
      | none => rfl
      | some q => cases byL m <;> rfl
theorem byL_len : ∀ (L : List (List UInt8)) (l : List Nat), byL L = some l → l.length = L.length
  | [], l, h => by cases h; rfl
  | x :: r, l, h => by
    rw [byL] at h
    cases hw : byW x with
    | none => rw [hw] at h; cases h
    | some a =>
      rw [hw] at h
      cases hr : byL r with
      | none => rw [hr] at h; cases h
      | some q =>
        rw [hr] at h
        cases h
        rw [List.length_cons, List.length_cons, byL_len r q hr]
theorem byL_snoc {L : List (List UInt8)} {k : Nat} {x : List UInt8} {a : Nat} {l : List Nat} (hk : L[k]? = some x) (hl : byL (L.take k) = some l) (ha : byW x = some a) : byL (L.take (k + 1)) = some (l ++ [a]) := by
  rw [List.take_add_one, hk, byL_append, hl]
  simp [byL, ha]
theorem byL_bad {L : List (List UInt8)} {k : Nat} {x : List UInt8} (hk : L[k]? = some x) (ha : byW x = none) : byL L = none := by
  have h : L.take k ++ x :: L.drop (k + 1) = L := by
    obtain ⟨hlt, rfl⟩ := List.getElem?_eq_some_iff.1 hk
    rw [← List.drop_eq_getElem_cons hlt]
    exact List.take_append_drop k L
  rw [← h, byL_append, byL, ha]
  cases byL (L.take k) <;> rfl
theorem fh_word {x : List UInt8} (h2 : (fh x).2 = 0) (hl : x.length = 2) : (fh x).1 < 256 := by
  unfold fh at h2 ⊢
  split
  · rename_i e; subst e; cases hl
  · rw [if_neg (by omega)]
    cases e : hfold x 0 with
    | none => show (0 : Nat) < 256; omega
    | some n =>
      have := hfold_lt x 0 n e
      rw [hl] at this
      exact this
theorem strT (x : List UInt8) : (⟨x.toArray⟩ : ByteArray).toList = x := str_toList x
theorem strS (x : List UInt8) : (⟨x.toArray⟩ : ByteArray).size = x.length := strn x
set_option maxHeartbeats 4000000 in
theorem bytes_calls (o : Option Addr) (c : Nat) (L : List (List UInt8)) (w : World) (hL : WsAt w o L) (hn : L.length ≤ 200001) (hx : ∀ x ∈ L, x.length ≤ 200001) :
    Calls Tryd.prog 79 #[.slice o L.length c] w fun e w' => Below w.heap.size w w' ∧
      ((∃ v l, byL L = some l ∧ l ≠ [] ∧ e = .returned (.tuple #[v, .bool true]) ∧ w'.ownsRow w.heap.size 5 1 v l.length (l.map nV)) ∨
       ((∀ l, byL L = some l → l = []) ∧ e = .returned (.tuple #[.slice none 0 0, .bool false]))) := by
  obtain ⟨i0, hi, hz0, hz1, hz2⟩ := info_parts infoU8
  obtain ⟨n, hln⟩ : ∃ n, L.length = n := ⟨_, rfl⟩
  have HX := hide hx
  have HL := hide hL
  clear hx hL
  rw [hln] at hn ⊢
  go_enter Tryd.func79, Tryd.ntmps79
  go_wp2_with fail
  go_loopw [4, 11] (fun v4 v11 wr => ∃ (k : Nat) (V : Value) (l : List Nat), k ≤ n ∧ V = v4 ∧ v11 = .int .i64 (k : Int) ∧ Hid (byL (L.take k) = some l) ∧ wr.ownsRow w.heap.size 5 1 V k (l.map nV) ∧ (k = 0 → V = .slice none 0 0) ∧ Below w.heap.size w wr) (fun _ v11 _ => n - (intOf v11).toNat)
  case atStart => exact ⟨0, _, [], by omega, rfl, rfl, rfl, World.ownsRow_nil _ _ _ _, fun _ => rfl, Below.refl _ _⟩
  case round =>
    obtain ⟨k, V, l, hk, hV, rfl, hl, hown, hV0, hb⟩ := hrel
    subst hV
    have hll : l.length = k := by
      have h := byL_len _ _ hl.out
      rw [List.length_take] at h
      omega
    rcases Nat.lt_or_ge k n with hlt | hge
    · obtain ⟨x, hxk⟩ : ∃ x, L[k]? = some x := ⟨L[k], List.getElem?_eq_getElem (by omega)⟩
      obtain ⟨b, off, rfl, hbl, hcw⟩ := HL.out.addr (by intro e; subst e; simp at hln; omega)
      have hxl := HX.out x (List.mem_of_getElem? hxk)
      have hc : wr.cell? ⟨b, off + k, none⟩ = some (.string ⟨x.toArray⟩) := (World.cell?_of_block (hb.block b hbl)).trans (hcw k x hxk)
      have k1 : (k : Int) < (n : Int) := by omega
      have hf := octFromHex_calls ⟨x.toArray⟩ wr (by rw [strS]; unfold maxLen; omega)
      rw [strT] at hf
      have hsz := strS x
      have HK := hide hxk
      clear hxk hcw
      go_wp2_with fail
      refine hf.mono ?_
      clear hf
      rintro e w2 ⟨rfl, rfl⟩
      by_cases he : (fh x).2 = 0
      · have hz : (((fh x).2 : Int) != 0) = false := by rw [he]; rfl
        by_cases h2 : x.length = 2
        · have h22 : ((x.length : Int) != 2) = false := by rw [h2]; rfl
          have hlt2 := fh_word he h2
          have hw : IntKind.u8.wrap ((fh x).1 : Int) = ((fh x).1 : Int) := by rw [IntKind.wrap_u8]; omega
          have hW : Hid (byW x = some (fh x).1) := by unfold Hid byW; rw [if_pos ⟨he, h2⟩]
          have hbase := hb.size
          clear he h2
          unfold fhV
          go_wp2_with (at_builtin; refine wpList_append_one rfl _ _ 22 rfl w.heap.size 5 i0 _ 1 Tryd.underlying22 hi hz0 hz1 hz2 rfl _ _ _ rfl hown (.int .u8 ((fh x).1 : Int)) rfl rfl (by unfold maxLen; omega) (by omega) hbase ?_; intro gg cap w3 hown3 hkp)
          have hb3 := hb.trans hkp.1
          clear hown hb hkp hV0
          go_roundw
          case rel => exact ⟨k + 1, _, l ++ [(fh x).1], by omega, rfl, by go_num, byL_snoc HK.out hl.out hW.out, by rw [List.map_append]; exact hown3, fun h => by omega, hb3⟩
          case measure => simp [intOf]; omega
        · have h22 : ((x.length : Int) != 2) = true := by rw [bne_iff_ne]; omega
          have hW : Hid (byW x = none) := by unfold Hid byW; rw [if_neg (fun h => h2 h.2)]
          clear he h2
          unfold fhV
          go_wp2_with fail
          go_ret2
          exact ⟨hb, Or.inr ⟨fun l h => (by rw [byL_bad HK.out hW.out] at h; cases h), rfl⟩⟩
      · have hz : (((fh x).2 : Int) != 0) = true := by rw [bne_iff_ne]; omega
        have hW : Hid (byW x = none) := by unfold Hid byW; rw [if_neg (fun h => he h.1)]
        clear he
        unfold fhV
        go_wp2_with fail
        go_ret2
        exact ⟨hb, Or.inr ⟨fun l h => (by rw [byL_bad HK.out hW.out] at h; cases h), rfl⟩⟩
    · obtain rfl : k = n := by omega
      have k2 : (decide ((k : Int) < (k : Int))) = false := decide_eq_false (by omega)
      have hB : Hid (byL L = some l) := by
        have h := hl.out
        rwa [List.take_of_length_le (by omega)] at h
      clear hl
      rcases Nat.eq_zero_or_pos k with h0 | hpos
      · subst h0
        obtain rfl : l = [] := List.eq_nil_of_length_eq_zero hll
        obtain rfl := hV0 rfl
        go_wp2_with fail
        go_ret2
        exact ⟨hb, Or.inr ⟨fun l h => (by rw [hB.out] at h; cases h; rfl), rfl⟩⟩
      · have kp : (0 : Int) < (k : Int) := by omega
        obtain ⟨g, cap, cur, rfl, _⟩ := own1_row hown (by omega)
        clear hV0
        go_wp2_with fail
        go_ret2
        refine ⟨hb, Or.inl ⟨_, l, hB.out, ?_, rfl, by rw [hll]; exact hown⟩⟩
        intro e
        subst e
        simp at hll
        omega
end Go.Proofs.YtdhdknjefjolpaaDoor
end
section
/-
  gannetref33.Bytes; script.number.
-/
namespace Go.Proofs.YtdhdknjefjolpaaDoor
set_option linter.unusedSimpArgs false
set_option linter.unusedVariables false
set_option maxRecDepth 10000
open Go.RowKit Go.Shelf Pl
theorem below_drewN {B : Nat} {a : World} : ∀ (n : Nat) {b : World}, Below B a b → Below B a (b.drewN n)
  | 0, _, h => h
  | n + 1, b, h => (below_drewN n h).drew
theorem rfh_calls (x : List UInt8) (w : World) (hx : x.length ≤ 200001) : Calls Tryd.prog 82 #[.string ⟨x.toArray⟩] w fun e w' => e = .returned (fhV (fh x)) ∧ Below w.heap.size w w' := by
  refine (refFromHex_calls ⟨x.toArray⟩ w (by rw [strS]; unfold maxLen; omega)).mono ?_
  rintro e w' ⟨rfl, n, rfl⟩
  rw [strT]
  exact ⟨rfl, below_drewN n (Below.refl _ _)⟩
set_option maxHeartbeats 4000000 in
theorem rbytes_calls (o : Option Addr) (c : Nat) (L : List (List UInt8)) (w : World) (hL : WsAt w o L) (hn : L.length ≤ 200001) (hx : ∀ x ∈ L, x.length ≤ 200001) :
    Calls Tryd.prog 83 #[.slice o L.length c] w fun e w' => Below w.heap.size w w' ∧
      ((∃ v l, byL L = some l ∧ l ≠ [] ∧ e = .returned (.tuple #[v, .bool true]) ∧ w'.ownsRow w.heap.size 5 1 v l.length (l.map nV)) ∨
       ((∀ l, byL L = some l → l = []) ∧ e = .returned (.tuple #[.slice none 0 0, .bool false]))) := by
  obtain ⟨i0, hi, hz0, hz1, hz2⟩ := info_parts infoU8
  obtain ⟨n, hln⟩ : ∃ n, L.length = n := ⟨_, rfl⟩
  have HX := hide hx
  have HL := hide hL
  clear hx hL
  rw [hln] at hn ⊢
  go_enter Tryd.func83, Tryd.ntmps83
  go_wp2_with fail
  go_loopw [4, 5] (fun v4 v11 wr => ∃ (k : Nat) (V : Value) (l : List Nat), k ≤ n ∧ V = v4 ∧ v11 = .int .i64 (k : Int) ∧ Hid (byL (L.take k) = some l) ∧ wr.ownsRow w.heap.size 5 1 V k (l.map nV) ∧ (k = 0 → V = .slice none 0 0) ∧ Below w.heap.size w wr) (fun _ v11 _ => n - (intOf v11).toNat)
  case atStart => exact ⟨0, _, [], by omega, rfl, rfl, rfl, World.ownsRow_nil _ _ _ _, fun _ => rfl, Below.refl _ _⟩
  case round =>
    obtain ⟨k, V, l, hk, hV, rfl, hl, hown, hV0, hb⟩ := hrel
    subst hV
    have hll : l.length = k := by
      have h := byL_len _ _ hl.out
      rw [List.length_take] at h
      omega
    rcases Nat.lt_or_ge k n with hlt | hge
    · obtain ⟨x, hxk⟩ : ∃ x, L[k]? = some x := ⟨L[k], List.getElem?_eq_getElem (by omega)⟩
      obtain ⟨b, off, rfl, hbl, hcw⟩ := HL.out.addr (by intro e; subst e; simp at hln; omega)
      have hxl := HX.out x (List.mem_of_getElem? hxk)
      have hc : wr.cell? ⟨b, off + k, none⟩ = some (.string ⟨x.toArray⟩) := (World.cell?_of_block (hb.block b hbl)).trans (hcw k x hxk)
      have k1 : (k : Int) < (n : Int) := by omega
      have hf := rfh_calls x wr hxl
      have hsz := strS x
      have HK := hide hxk
      have HC := hide hc
      clear hxk hcw
      go_wp2_with fail
      refine hf.mono ?_
      clear hf hc
      rintro e w2 ⟨rfl, hb2⟩
      have hc : w2.cell? ⟨b, off + k, none⟩ = some (.string ⟨x.toArray⟩) := (hb2.cell (cell_lt HC.out)).trans HC.out
      have hown2 := own1_keep hown (fun g hg => hb2.block g (own1_lt hown hg))
      have hb02 := hb.trans (hb2.mono hb.size)
      clear hown hb hb2
      by_cases he : (fh x).2 = 0
      · have hz : (((fh x).2 : Int) != 0) = false := by rw [he]; rfl
        by_cases h2 : x.length = 2
        · have h22 : ((x.length : Int) != 2) = false := by rw [h2]; rfl
          have hlt2 := fh_word he h2
          have hw : IntKind.u8.wrap ((fh x).1 : Int) = ((fh x).1 : Int) := by rw [IntKind.wrap_u8]; omega
          have hW : Hid (byW x = some (fh x).1) := by unfold Hid byW; rw [if_pos ⟨he, h2⟩]
          have hbase := hb02.size
          clear he h2
          unfold fhV
          go_wp2_with (at_builtin; refine wpList_append_one rfl _ _ 22 rfl w.heap.size 5 i0 _ 1 Tryd.underlying22 hi hz0 hz1 hz2 rfl _ _ _ rfl hown2 (.int .u8 ((fh x).1 : Int)) rfl rfl (by unfold maxLen; omega) (by omega) hbase ?_; intro gg cap w3 hown3 hkp)
          have hb3 := hb02.trans hkp.1
          clear hown2 hb02 hkp hV0
          go_roundw
          case rel => exact ⟨k + 1, _, l ++ [(fh x).1], by omega, rfl, by go_num, byL_snoc HK.out hl.out hW.out, by rw [List.map_append]; exact hown3, fun h => by omega, hb3⟩
          case measure => simp [intOf]; omega
        · have h22 : ((x.length : Int) != 2) = true := by rw [bne_iff_ne]; omega
          have hW : Hid (byW x = none) := by unfold Hid byW; rw [if_neg (fun h => h2 h.2)]
          clear he h2
          unfold fhV
          go_wp2_with fail
          go_ret2
          exact ⟨hb02, Or.inr ⟨fun l h => (by rw [byL_bad HK.out hW.out] at h; cases h), rfl⟩⟩
      · have hz : (((fh x).2 : Int) != 0) = true := by rw [bne_iff_ne]; omega
        have hW : Hid (byW x = none) := by unfold Hid byW; rw [if_neg (fun h => he h.1)]
        clear he
        unfold fhV
        go_wp2_with fail
        go_ret2
        exact ⟨hb02, Or.inr ⟨fun l h => (by rw [byL_bad HK.out hW.out] at h; cases h), rfl⟩⟩
    · obtain rfl : k = n := by omega
      have k2 : (decide ((k : Int) < (k : Int))) = false := decide_eq_false (by omega)
      have hB : Hid (byL L = some l) := by
        have h := hl.out
        rwa [List.take_of_length_le (by omega)] at h
      clear hl
      rcases Nat.eq_zero_or_pos k with h0 | hpos
      · subst h0
        obtain rfl : l = [] := List.eq_nil_of_length_eq_zero hll
        obtain rfl := hV0 rfl
        go_wp2_with fail
        go_ret2
        exact ⟨hb, Or.inr ⟨fun l h => (by rw [hB.out] at h; cases h; rfl), rfl⟩⟩
      · have kp : (0 : Int) < (k : Int) := by omega
        obtain ⟨g, cap, cur, rfl, _⟩ := own1_row hown (by omega)
        clear hV0
        go_wp2_with fail
        go_ret2
        refine ⟨hb, Or.inl ⟨_, l, hB.out, ?_, rfl, by rw [hll]; exact hown⟩⟩
        intro e
        subst e
        simp at hll
        omega
/-- A number alone. -/
def numL (L : List (List UInt8)) : Nat × Nat := match L with
  | [x] => if (numV x).2 ≠ 0 then (0, 3) else ((numV x).1, 0)
  | _ => (0, 3)
set_option maxHeartbeats 4000000 in
theorem number_calls (o : Option Addr) (c : Nat) (L : List (List UInt8)) (w : World) (hL : WsAt w o L) (hn : L.length ≤ 200001) :
    Calls Tryd.prog 77 #[.slice o L.length c] w fun e w' => e = .returned (.tuple #[.int .i64 ((numL L).1 : Int), .int .i64 ((numL L).2 : Int)]) ∧ Below w.heap.size w w' := by
  by_cases h1 : L.length = 1
  · obtain ⟨x, rfl⟩ : ∃ x, L = [x] := List.length_eq_one_iff.1 h1
    obtain ⟨b, off, rfl, hbl, hcw⟩ := hL.addr (by simp)
    have hc : w.cell? ⟨b, off, none⟩ = some (.string ⟨x.toArray⟩) := hcw 0 x rfl
    have hN := num_calls ⟨x.toArray⟩ w
    have e : (⟨x.toArray⟩ : ByteArray).data.toList = x := rfl
    rw [e] at hN
    clear e hL hcw h1 hn
    by_cases he : (numV x).2 = 0
    · have hz : (((numV x).2 : Int) != 0) = false := by rw [he]; rfl
      have e : numL [x] = ((numV x).1, 0) := by unfold numL; dsimp only; rw [if_neg (by omega)]
      rw [e]
      clear e he
      go_enter Tryd.func77, Tryd.ntmps77
      go_wp2_with fail
      refine hN.mono ?_
      clear hN hc
      rintro e w2 ⟨rfl, hb2⟩
      go_wp2_with fail
      go_ret2
      exact ⟨rfl, hb2⟩
    · have hz : (((numV x).2 : Int) != 0) = true := by rw [bne_iff_ne]; omega
      have e : numL [x] = (0, 3) := by unfold numL; dsimp only; rw [if_pos he]
      rw [e]
      clear e he
      go_enter Tryd.func77, Tryd.ntmps77
      go_wp2_with fail
      refine hN.mono ?_
      clear hN hc
      rintro e w2 ⟨rfl, hb2⟩
      go_wp2_with fail
      go_ret2
      exact ⟨rfl, hb2⟩
  · have hz : ((L.length : Int) != 1) = true := by rw [bne_iff_ne]; omega
    have e : numL L = (0, 3) := by
      unfold numL
      split
      · simp at h1
      · rfl
    rw [e]
    clear e h1 hL
    generalize L.length = n at *
    go_enter Tryd.func77, Tryd.ntmps77
    go_wp2_with fail
    go_ret2
    exact ⟨rfl, Below.refl _ _⟩
end Go.Proofs.YtdhdknjefjolpaaDoor
end
section
/-
  What lines tell: plain; and the slices that hold it.
-/
namespace Go.Proofs.YtdhdknjefjolpaaDoor
set_option linter.unusedSimpArgs false
set_option linter.unusedVariables false
set_option maxRecDepth 10000
open Go.RowKit Go.Shelf Pl
/-- What was told. -/
structure Tl where
  pg : Option Nat
  bd : Option Nat
  ps : List (Nat × List Nat)
  f0 : List Nat
  f1 : List Nat
  f2 : List Nat
  ed : List (Nat × Nat × Bool)
def onceT (T : Tl) (bud : Bool) (L : List (List UInt8)) : Nat × Tl :=
  if (numL L).2 ≠ 0 then (3, T)
  else if bud = true then (if T.bd.isSome then (11, T) else (0, { T with bd := some (numL L).1 }))
  else if (numL L).1 < 1 ∨ 128 < (numL L).1 then (6, T)
  else if T.pg.isSome then (11, T) else (0, { T with pg := some (numL L).1 })
def romT (T : Tl) : List (List UInt8) → Nat × Tl
  | a :: x :: t => if a.length = 6 ∧ (fh a).2 = 0 then match byL (x :: t) with
      | some l => (0, { T with ps := T.ps ++ [((fh a).1, l)] })
      | none => (3, T)
    else (3, T)
  | _ => (3, T)
def feedT (T : Tl) (k : Nat) (L : List (List UInt8)) : Nat × Tl := match byL L with
  | some (a :: l) => (0, if k = 0 then { T with f0 := T.f0 ++ a :: l } else if k = 1 then { T with f1 := T.f1 ++ a :: l } else { T with f2 := T.f2 ++ a :: l })
  | _ => (3, T)
def wReset : List UInt8 := [114, 101, 115, 101, 116]
def wNmi : List UInt8 := [110, 109, 105]
def wIrq1 : List UInt8 := [105, 114, 113, 49]
def wIrq2 : List UInt8 := [105, 114, 113, 50]
def lineK (b : List UInt8) : Option Nat := if b = wReset then some 0 else if b = wNmi then some 1 else if b = wIrq1 then some 2 else if b = wIrq2 then some 3 else none
def edgeT (T : Tl) (up : Bool) : List (List UInt8) → Nat × Tl
  | [a, b] => if (numV a).2 ≠ 0 then (3, T) else match lineK b with
    | some k => (0, { T with ed := T.ed ++ [((numV a).1, k, up)] })
    | none => (8, T)
  | _ => (3, T)
def wPages : List UInt8 := [112, 97, 103, 101, 115]
def wBudget : List UInt8 := [98, 117, 100, 103, 101, 116]
def wRom : List UInt8 := [114, 111, 109]
def wVdc : List UInt8 := [118, 100, 99]
def wVce : List UInt8 := [118, 99, 101]
def wPort : List UInt8 := [112, 111, 114, 116]
def wUp : List UInt8 := [117, 112]
def wDown : List UInt8 := [100, 111, 119, 110]
/-- A line told. -/
def lineT (T : Tl) : List (List UInt8) → Nat × Tl
  | [] => (0, T)
  | w :: r =>
    if w = wPages then onceT T false r
    else if w = wBudget then onceT T true r
    else if w = wRom then romT T r
    else if w = wVdc then feedT T 0 r
    else if w = wVce then feedT T 1 r
    else if w = wPort then feedT T 2 r
    else if w = wUp then edgeT T true r
    else if w = wDown then edgeT T false r
    else (10, T)
/-- So much at most, behind j lines. -/
structure Tl.bnd (T : Tl) (j : Nat) : Prop where
  a0 : T.f0.length ≤ j * 200001
  a1 : T.f1.length ≤ j * 200001
  a2 : T.f2.length ≤ j * 200001
  ap : T.ps.length ≤ j
  ae : T.ed.length ≤ j
theorem Tl.bnd.le {T : Tl} {i j : Nat} (h : T.bnd i) (hj : i ≤ j) : T.bnd j := by
  have hm := Nat.mul_le_mul_right 200001 hj
  exact ⟨Nat.le_trans h.a0 hm, Nat.le_trans h.a1 hm, Nat.le_trans h.a2 hm, Nat.le_trans h.ap hj, Nat.le_trans h.ae hj⟩
theorem lineT_bnd {T : Tl} {j : Nat} (h : T.bnd j) (L : List (List UInt8)) (hL : L.length ≤ 200001) : (lineT T L).2.bnd (j + 1) := by
  have h1 := h.le (Nat.le_succ j)
  have hO : ∀ b r, (onceT T b r).2.bnd (j + 1) := fun b r => by
    unfold onceT
    split
    · exact h1
    · split
      · split
        · exact h1
        · exact ⟨h1.a0, h1.a1, h1.a2, h1.ap, h1.ae⟩
      · split
        · exact h1
        · split
          · exact h1
          · exact ⟨h1.a0, h1.a1, h1.a2, h1.ap, h1.ae⟩
  have hR : ∀ r, (romT T r).2.bnd (j + 1) := fun r => by
    unfold romT
    split
    · split
      · split
        · refine ⟨h1.a0, h1.a1, h1.a2, ?_, h1.ae⟩
          have := h.ap
          dsimp only
          rw [List.length_append, List.length_singleton]
          omega
        · exact h1
      · exact h1
    · exact h1
  have hF : ∀ k r, r.length ≤ 200001 → (feedT T k r).2.bnd (j + 1) := fun k r hr => by
    unfold feedT
    split
    · rename_i a l hb
      have hl := byL_len _ _ hb
      rw [← hl] at hr
      have g : ∀ q : List Nat, q.length ≤ j * 200001 → (q ++ a :: l).length ≤ (j + 1) * 200001 := fun q hq => by rw [List.length_append, Nat.add_mul, Nat.one_mul]; exact Nat.add_le_add hq hr
      dsimp only
      split
      · exact ⟨g _ h.a0, h1.a1, h1.a2, h1.ap, h1.ae⟩
      · split
        · exact ⟨h1.a0, g _ h.a1, h1.a2, h1.ap, h1.ae⟩
        · exact ⟨h1.a0, h1.a1, g _ h.a2, h1.ap, h1.ae⟩
    · exact h1
  have hE : ∀ b r, (edgeT T b r).2.bnd (j + 1) := fun b r => by
    unfold edgeT
    split
    · split
      · exact h1
      · split
        · refine ⟨h1.a0, h1.a1, h1.a2, h1.ap, ?_⟩
          have := h.ae
          dsimp only
          rw [List.length_append, List.length_singleton]
          omega
        · exact h1
    · exact h1
  cases L with
  | nil => exact h1
  | cons w r =>
    have hr : r.length ≤ 200001 := by simp at hL; omega
    unfold lineT
    dsimp only
    split; · exact hO _ _
    split; · exact hO _ _
    split; · exact hR _
    split; · exact hF _ _ hr
    split; · exact hF _ _ hr
    split; · exact hF _ _ hr
    split; · exact hE _ _
    split; · exact hE _ _
    exact h1
/-! ### in memory -/
structure Pq where
  at_ : Nat
  by_ : List Nat
  b : Nat
  c : Nat
def Pq.cells (q : Pq) : List Value := [.int .i64 (q.at_ : Int), .slice (some ⟨q.b, 0, none⟩) q.by_.length q.c]
def psC (Q : List Pq) : List Value := Q.flatMap Pq.cells
def edV (e : Nat × Nat × Bool) : List Value := [.int .i64 (e.1 : Int), .int .u8 (e.2.1 : Int), .bool e.2.2]
def edC (l : List (Nat × Nat × Bool)) : List Value := l.flatMap edV
structure SL (W : World) (base : Nat) (vp v0 v1 v2 ve : Value) (Q : List Pq) (T : Tl) : Prop where
  ps : T.ps = Q.map fun q => (q.at_, q.by_)
  r0 : W.ownsRow base 5 1 v0 T.f0.length (T.f0.map nV)
  r1 : W.ownsRow base 5 1 v1 T.f1.length (T.f1.map nV)
  r2 : W.ownsRow base 5 1 v2 T.f2.length (T.f2.map nV)
  re : W.ownsRow base 31 3 ve T.ed.length (edC T.ed)
  rp : W.ownsRow base 88 2 vp Q.length (psC Q)
  rq : ∀ q ∈ Q, W.ownsRow base 5 1 (.slice (some ⟨q.b, 0, none⟩) q.by_.length q.c) q.by_.length (q.by_.map nV)
  s01 : ∀ g, v0.ownBlock = some g → v1.ownBlock ≠ some g
  s02 : ∀ g, v0.ownBlock = some g → v2.ownBlock ≠ some g
  s12 : ∀ g, v1.ownBlock = some g → v2.ownBlock ≠ some g
  q0 : ∀ q ∈ Q, v0.ownBlock ≠ some q.b
  q1 : ∀ q ∈ Q, v1.ownBlock ≠ some q.b
  q2 : ∀ q ∈ Q, v2.ownBlock ≠ some q.b
variable {W W' : World} {base : Nat} {vp v0 v1 v2 ve : Value} {Q : List Pq} {T : Tl}
theorem SL.nil (W : World) (base : Nat) (p b : Option Nat) : SL W base (.slice none 0 0) (.slice none 0 0) (.slice none 0 0) (.slice none 0 0) (.slice none 0 0) [] ⟨p, b, [], [], [], [], []⟩ where
  ps := rfl
  r0 := World.ownsRow_nil _ _ _ _
  r1 := World.ownsRow_nil _ _ _ _
  r2 := World.ownsRow_nil _ _ _ _
  re := World.ownsRow_nil _ _ _ _
  rp := World.ownsRow_nil _ _ _ _
  rq := fun q h => by cases h
  s01 := fun g h => by cases h
  s02 := fun g h => by cases h
  s12 := fun g h => by cases h
  q0 := fun q h => by cases h
  q1 := fun q h => by cases h
  q2 := fun q h => by cases h
theorem SL.told (h : SL W base vp v0 v1 v2 ve Q T) (T' : Tl) (hp : T'.ps = T.ps) (h0 : T'.f0 = T.f0) (h1 : T'.f1 = T.f1) (h2 : T'.f2 = T.f2) (he : T'.ed = T.ed) : SL W base vp v0 v1 v2 ve Q T' where
  ps := hp.trans h.ps
  r0 := by rw [h0]; exact h.r0
  r1 := by rw [h1]; exact h.r1
  r2 := by rw [h2]; exact h.r2
  re := by rw [he]; exact h.re
  rp := h.rp
  rq := h.rq
  s01 := h.s01
  s02 := h.s02
  s12 := h.s12
  q0 := h.q0
  q1 := h.q1
  q2 := h.q2
/-- What lies from base on lies as it lay. -/
theorem SL.keep (h : SL W base vp v0 v1 v2 ve Q T) (hk : ∀ g, base ≤ g → g < W.heap.size → W'.heap[g]? = W.heap[g]?) : SL W' base vp v0 v1 v2 ve Q T := by
  have kk : ∀ {n size : Nat} {e : TypeId} {v : Value} {xs : List Value}, W.ownsRow base e size v n xs → W'.ownsRow base e size v n xs := fun r => own1_keep r (fun g hg => hk g (own1_blk r hg).1 (own1_lt r hg))
  exact ⟨h.ps, kk h.r0, kk h.r1, kk h.r2, kk h.re, kk h.rp, fun q hq => kk (h.rq q hq), h.s01, h.s02, h.s12, h.q0, h.q1, h.q2⟩
theorem SL.below {n : Nat} (h : SL W base vp v0 v1 v2 ve Q T) (hb : Below n W W') (hn : W.heap.size ≤ n) : SL W' base vp v0 v1 v2 ve Q T := h.keep fun g _ hg => hb.block g (by omega)
theorem own_grown {n size : Nat} {e : TypeId} {v : Value} {xs : List Value} {row : Option Nat} (r : W.ownsRow base e size v n xs) (hg : W.grownBy W' row) (hne : ∀ g, v.ownBlock = some g → some g ≠ row) : W'.ownsRow base e size v n xs :=
  own1_keep r fun g h => hg.block g (own1_lt r h) (hne g h)
/-- Rows of two types are two. -/
theorem own_two {b2 n n' size size' : Nat} {e e' : TypeId} {v v' : Value} {xs xs' : List Value} (r : W.ownsRow base e size v n xs) (r' : W.ownsRow b2 e' size' v' n' xs') (he : e ≠ e') : ∀ g, v.ownBlock = some g → some g ≠ v'.ownBlock := fun g hg => own_type r r' he hg
section
variable {g cap m : Nat} {l : List Nat}
theorem fresh_ne {n size : Nat} {e : TypeId} {v v' : Value} {xs : List Value} (r : W.ownsRow base e size v n xs) (hl : v'.ownBlock = some g ∨ g = W.heap.size) (hs : ∀ g, v.ownBlock = some g → v'.ownBlock ≠ some g) : v.ownBlock ≠ some g := fun hx => by
  rcases hl with h | h
  · exact hs g hx h
  · have := own1_lt r hx
    omega
theorem SL.feed0 (h : SL W base vp v0 v1 v2 ve Q T) (hr : W'.ownsRow base 5 1 (.slice (some ⟨g, 0, none⟩) (T.f0.length + l.length) cap) (T.f0.length + l.length) (T.f0.map nV ++ l.map nV)) (hg : W.grownBy W' v0.ownBlock) (hl : v0.ownBlock = some g ∨ g = W.heap.size) :
    SL W' base vp (.slice (some ⟨g, 0, none⟩) (T.f0.length + l.length) cap) v1 v2 ve Q { T with f0 := T.f0 ++ l } where
  ps := h.ps
  r0 := by show W'.ownsRow base 5 1 _ (T.f0 ++ l).length ((T.f0 ++ l).map nV); rw [List.length_append, List.map_append]; exact hr
  r1 := own_grown h.r1 hg (fun g1 e1 e2 => h.s01 g1 e2.symm e1)
  r2 := own_grown h.r2 hg (fun g1 e1 e2 => h.s02 g1 e2.symm e1)
  re := own_grown h.re hg (own_two h.re h.r0 (by decide))
  rp := own_grown h.rp hg (own_two h.rp h.r0 (by decide))
  rq := fun q hq => own_grown (h.rq q hq) hg (fun g1 e1 e2 => h.q0 q hq (by rw [← e2]; exact e1.symm))
  s01 := fun g1 e1 => by cases e1; exact fresh_ne h.r1 hl (fun g1 e1 e2 => h.s01 g1 e2 e1)
  s02 := fun g1 e1 => by cases e1; exact fresh_ne h.r2 hl (fun g1 e1 e2 => h.s02 g1 e2 e1)
  s12 := h.s12
  q0 := fun q hq e => by
    have e : g = q.b := Option.some.inj e
    rcases hl with h' | h'
    · exact h.q0 q hq (by rw [h', e])
    · have := own1_lt (h.rq q hq) (g := q.b) rfl
      omega
  q1 := h.q1
  q2 := h.q2
theorem SL.feed1 (h : SL W base vp v0 v1 v2 ve Q T) (hr : W'.ownsRow base 5 1 (.slice (some ⟨g, 0, none⟩) (T.f1.length + l.length) cap) (T.f1.length + l.length) (T.f1.map nV ++ l.map nV)) (hg : W.grownBy W' v1.ownBlock) (hl : v1.ownBlock = some g ∨ g = W.heap.size) :
    SL W' base vp v0 (.slice (some ⟨g, 0, none⟩) (T.f1.length + l.length) cap) v2 ve Q { T with f1 := T.f1 ++ l } where
  ps := h.ps
  r1 := by show W'.ownsRow base 5 1 _ (T.f1 ++ l).length ((T.f1 ++ l).map nV); rw [List.length_append, List.map_append]; exact hr
  r0 := own_grown h.r0 hg (fun g1 e1 e2 => h.s01 g1 e1 e2.symm)
  r2 := own_grown h.r2 hg (fun g1 e1 e2 => h.s12 g1 e2.symm e1)
  re := own_grown h.re hg (own_two h.re h.r1 (by decide))
  rp := own_grown h.rp hg (own_two h.rp h.r1 (by decide))
  rq := fun q hq => own_grown (h.rq q hq) hg (fun g1 e1 e2 => h.q1 q hq (by rw [← e2]; exact e1.symm))
  s01 := fun g1 e1 e2 => by cases e2; exact fresh_ne h.r0 hl (fun g1 e1 e2 => h.s01 g1 e1 e2) e1
  s02 := h.s02
  s12 := fun g1 e1 => by cases e1; exact fresh_ne h.r2 hl (fun g1 e1 e2 => h.s12 g1 e2 e1)
  q0 := h.q0
  q1 := fun q hq e => by
    have e : g = q.b := Option.some.inj e
    rcases hl with h' | h'
    · exact h.q1 q hq (by rw [h', e])
    · have := own1_lt (h.rq q hq) (g := q.b) rfl
      omega
  q2 := h.q2
theorem SL.feed2 (h : SL W base vp v0 v1 v2 ve Q T) (hr : W'.ownsRow base 5 1 (.slice (some ⟨g, 0, none⟩) (T.f2.length + l.length) cap) (T.f2.length + l.length) (T.f2.map nV ++ l.map nV)) (hg : W.grownBy W' v2.ownBlock) (hl : v2.ownBlock = some g ∨ g = W.heap.size) :
    SL W' base vp v0 v1 (.slice (some ⟨g, 0, none⟩) (T.f2.length + l.length) cap) ve Q { T with f2 := T.f2 ++ l } where
  ps := h.ps
  r2 := by show W'.ownsRow base 5 1 _ (T.f2 ++ l).length ((T.f2 ++ l).map nV); rw [List.length_append, List.map_append]; exact hr
  r0 := own_grown h.r0 hg (fun g1 e1 e2 => h.s02 g1 e1 e2.symm)
  r1 := own_grown h.r1 hg (fun g1 e1 e2 => h.s12 g1 e1 e2.symm)
  re := own_grown h.re hg (own_two h.re h.r2 (by decide))
  rp := own_grown h.rp hg (own_two h.rp h.r2 (by decide))
  rq := fun q hq => own_grown (h.rq q hq) hg (fun g1 e1 e2 => h.q2 q hq (by rw [← e2]; exact e1.symm))
  s01 := h.s01
  s02 := fun g1 e1 e2 => by cases e2; exact fresh_ne h.r0 hl (fun g1 e1 e2 => h.s02 g1 e1 e2) e1
  s12 := fun g1 e1 e2 => by cases e2; exact fresh_ne h.r1 hl (fun g1 e1 e2 => h.s12 g1 e1 e2) e1
  q0 := h.q0
  q1 := h.q1
  q2 := fun q hq e => by
    have e : g = q.b := Option.some.inj e
    rcases hl with h' | h'
    · exact h.q2 q hq (by rw [h', e])
    · have := own1_lt (h.rq q hq) (g := q.b) rfl
      omega
theorem edC_snoc (l : List (Nat × Nat × Bool)) (e : Nat × Nat × Bool) : edC (l ++ [e]) = edC l ++ edV e := by simp [edC]
theorem psC_snoc (Q : List Pq) (q : Pq) : psC (Q ++ [q]) = psC Q ++ q.cells := by simp [psC]
theorem SL.edge {e : Nat × Nat × Bool} (h : SL W base vp v0 v1 v2 ve Q T) (hr : W'.ownsRow base 31 3 (.slice (some ⟨g, 0, none⟩) (T.ed.length + 1) cap) (T.ed.length + 1) (edC T.ed ++ edV e)) (hg : W.grownBy W' ve.ownBlock) :
    SL W' base vp v0 v1 v2 (.slice (some ⟨g, 0, none⟩) (T.ed.length + 1) cap) Q { T with ed := T.ed ++ [e] } where
  ps := h.ps
  r0 := own_grown h.r0 hg (own_two h.r0 h.re (by decide))
  r1 := own_grown h.r1 hg (own_two h.r1 h.re (by decide))
  r2 := own_grown h.r2 hg (own_two h.r2 h.re (by decide))
  re := by show W'.ownsRow base 31 3 _ (T.ed ++ [e]).length (edC (T.ed ++ [e])); rw [List.length_append, edC_snoc]; exact hr
  rp := own_grown h.rp hg (own_two h.rp h.re (by decide))
  rq := fun q hq => own_grown (h.rq q hq) hg (own_two (h.rq q hq) h.re (by decide))
  s01 := h.s01
  s02 := h.s02
  s12 := h.s12
  q0 := h.q0
  q1 := h.q1
  q2 := h.q2
theorem SL.piece {q : Pq} (h : SL W base vp v0 v1 v2 ve Q T) (hq : W.ownsRow base 5 1 (.slice (some ⟨q.b, 0, none⟩) q.by_.length q.c) q.by_.length (q.by_.map nV)) (h0 : v0.ownBlock ≠ some q.b) (h1 : v1.ownBlock ≠ some q.b) (h2 : v2.ownBlock ≠ some q.b)
    (hr : W'.ownsRow base 88 2 (.slice (some ⟨g, 0, none⟩) (Q.length + 1) cap) (Q.length + 1) (psC Q ++ q.cells)) (hg : W.grownBy W' vp.ownBlock) :
    SL W' base (.slice (some ⟨g, 0, none⟩) (Q.length + 1) cap) v0 v1 v2 ve (Q ++ [q]) { T with ps := T.ps ++ [(q.at_, q.by_)] } where
  ps := by show T.ps ++ _ = _; rw [List.map_append, h.ps]; rfl
  r0 := own_grown h.r0 hg (own_two h.r0 h.rp (by decide))
  r1 := own_grown h.r1 hg (own_two h.r1 h.rp (by decide))
  r2 := own_grown h.r2 hg (own_two h.r2 h.rp (by decide))
  re := own_grown h.re hg (own_two h.re h.rp (by decide))
  rp := by rw [List.length_append, psC_snoc]; exact hr
  rq := fun p hp => by
    rcases List.mem_append.1 hp with hp | hp
    · exact own_grown (h.rq p hp) hg (own_two (h.rq p hp) h.rp (by decide))
    · obtain rfl := List.mem_singleton.1 hp
      exact own_grown hq hg (own_two hq h.rp (by decide))
  s01 := h.s01
  s02 := h.s02
  s12 := h.s12
  q0 := fun p hp => by
    rcases List.mem_append.1 hp with hp | hp
    · exact h.q0 p hp
    · obtain rfl := List.mem_singleton.1 hp; exact h0
  q1 := fun p hp => by
    rcases List.mem_append.1 hp with hp | hp
    · exact h.q1 p hp
    · obtain rfl := List.mem_singleton.1 hp; exact h1
  q2 := fun p hp => by
    rcases List.mem_append.1 hp with hp | hp
    · exact h.q2 p hp
    · obtain rfl := List.mem_singleton.1 hp; exact h2
end
end Go.Proofs.YtdhdknjefjolpaaDoor
end
