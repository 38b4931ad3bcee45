/-
  The texts Sc34, Sc35, Sc36, Sc37, Sc38, ScT of the proofs about scripts, as one file (they are merged by a program).
-/
import Derived.Test.YtdhdknjefjolpaaDoorA13
import Derived.Shelf.Strings.Builder1
section
/-
  Decimal digits: script.decimal, gannetref33.Decimal.
-/
namespace Go.Proofs.YtdhdknjefjolpaaDoor
set_option linter.unusedSimpArgs false
set_option linter.unusedVariables false
set_option maxRecDepth 10000
open Go.RowKit Go.Shelf Pl
def dgt (d : Nat) : UInt8 := UInt8.ofNat (48 + d)
def decK : Nat → Nat → List UInt8
  | 0, _ => []
  | k + 1, n => if n < 10 then [dgt n] else decK k (n / 10) ++ [dgt (n % 10)]
/-- A number's digits. -/
def decL (n : Nat) : List UInt8 := decK 19 n
theorem decK_len : ∀ k n, (decK k n).length ≤ k
  | 0, _ => Nat.le_refl _
  | k + 1, n => by
    rw [decK]
    split
    · simp
    · rw [List.length_append]
      have := decK_len k (n / 10)
      simp
      omega
theorem decK_succ : ∀ k n, n < 10 ^ k → 0 < k → decK (k + 1) n = decK k n
  | 0, _, _, h => by omega
  | 1, n, h, _ => by
    have h : n < 10 := by simpa using h
    rw [decK, if_pos h]
    unfold decK
    rw [if_pos h]
  | k + 2, n, h, _ => by
    rw [decK]
    conv => rhs; rw [decK]
    split
    · rfl
    · rw [decK_succ (k + 1) (n / 10) (by rw [Nat.pow_succ] at h; omega) (by omega)]
theorem dgt_toNat {d : Nat} (h : d < 10) : (dgt d).toNat = 48 + d := by
  unfold dgt
  rw [UInt8.toNat_ofNat']
  omega
theorem cat_bytes (x y : List UInt8) : (⟨x.toArray⟩ : ByteArray) ++ ⟨y.toArray⟩ = ⟨(x ++ y).toArray⟩ := by
  apply ByteArray.ext
  rw [ByteArray.data_append]
  simp
set_option maxHeartbeats 4000000 in
theorem dec_base (n : Nat) (w : World) (h : n < 10) : Calls Tryd.prog 39 #[.int .i64 (n : Int)] w fun e w' => e = .returned (.string ⟨[dgt n].toArray⟩) ∧ Below w.heap.size w w' := by
  have h1 : (n : Int) < 10 := by omega
  have hw1 : IntKind.i64.wrap (48 + (n : Int)) = 48 + n := by rw [IntKind.wrap_i64]; omega
  have hw : IntKind.u8.wrap (48 + (n : Int)) = ((dgt n).toNat : Int) := by rw [IntKind.wrap_u8, dgt_toNat h]; omega
  go_enter Tryd.func39, Tryd.ntmps39
  have hc0 : (w.alloc (.cells #[.int .u8 ((dgt n).toNat : Int)] 5)).cell? ⟨w.heap.size, 0, none⟩ = some (.int .u8 ((dgt n).toNat : Int)) := (Blk.new w 5 #[.int .u8 ((dgt n).toNat : Int)]).cell 0
  have hconv : (convert 22 9 (.slice (some ⟨w.heap.size, 0, none⟩) 1 1)).run Tryd.prog (w.alloc (.cells #[.int .u8 ((dgt n).toNat : Int)] 5)) = .ok (.string ⟨#[dgt n]⟩) (w.alloc (.cells #[.int .u8 ((dgt n).toNat : Int)] 5)) := run_convert_bytes_back (P := Tryd.prog) (w.alloc (.cells #[.int .u8 ((dgt n).toNat : Int)] 5)) 22 9 5 ⟨w.heap.size, 0, none⟩ 1 [dgt n] Tryd.underlying22 Tryd.underlying5 Tryd.underlying9 (fun j hj => by
    match j, hj with
    | 0, _ => rw [Addr.add_mid]; exact hc0)
  go_wp2_with fail
  go_ret
  exact ⟨rfl, Bl.alloc (Below.refl _ _) _⟩
set_option maxHeartbeats 8000000 in
theorem dec_calls : ∀ (k n : Nat) (w : World), n < 10 ^ k → 0 < k → k ≤ 19 → n ≤ 9223372036854775807 → Calls Tryd.prog 39 #[.int .i64 (n : Int)] w fun e w' => e = .returned (.string ⟨(decK k n).toArray⟩) ∧ Below w.heap.size w w'
  | 0, _, _, _, h, _, _ => by omega
  | k + 1, n, w, hn, _, hk19, h63 => by
    by_cases h : n < 10
    · have := dec_base n w h
      rw [decK, if_pos h]
      exact this
    · have hk0 : 0 < k := by
        rcases Nat.eq_zero_or_pos k with e | e
        · subst e; simp at hn; omega
        · exact e
      have h1 : (decide ((n : Int) < 10)) = false := decide_eq_false (by omega)
      have hdm : n % 10 < 10 := Nat.mod_lt _ (by omega)
      have e5 : decK (k + 1) n = decK k (n / 10) ++ [dgt (n % 10)] := by rw [decK, if_neg h]
      rw [e5]
      have e3 : Int.tdiv (n : Int) 10 = ((n / 10 : Nat) : Int) := by rw [Int.tdiv_eq_ediv_of_nonneg (by omega)]; omega
      have e4 : Int.tmod (n : Int) 10 = ((n % 10 : Nat) : Int) := by rw [Int.tmod_eq_emod_of_nonneg (by omega)]; omega
      have e1 : (n : Int) / 10 = ((n / 10 : Nat) : Int) := by omega
      have e2 : (n : Int) % 10 = ((n % 10 : Nat) : Int) := by omega
      have hwq : wrap64 ((n / 10 : Nat) : Int) = ((n / 10 : Nat) : Int) := by unfold wrap64; omega
      have hwd : wrap64 ((n % 10 : Nat) : Int) = ((n % 10 : Nat) : Int) := by unfold wrap64; omega
      have hq63 : n / 10 ≤ 9223372036854775807 := by omega
      have hq10 : n / 10 < 10 ^ k := by rw [Nat.pow_succ] at hn; omega
      generalize n / 10 = q at *
      generalize n % 10 = d at *
      have i1 := fun W => dec_calls k q W hq10 hk0 (by omega) hq63
      have i2 := fun W => dec_base d W hdm
      have hl := decK_len k q
      have hcat : (⟨(decK k q).toArray⟩ : ByteArray) ++ ⟨#[dgt d]⟩ = ⟨(decK k q ++ [dgt d]).toArray⟩ := cat_bytes (decK k q) [dgt d]
      have hs1 := strS (decK k q)
      clear hn h e5 hq10
      have hl19 : (decK k q).length ≤ 18 := by omega
      generalize hD : decK k q = D at *
      clear hD
      go_enter Tryd.func39, Tryd.ntmps39
      go_wp2_with fail
      refine (i1 _).mono ?_
      clear i1
      rintro e w2 ⟨rfl, hb2⟩
      go_wp2_with fail
      refine (i2 _).mono ?_
      clear i2
      rintro e w3 ⟨rfl, hb3⟩
      have hbb := hb2.trans (hb3.mono hb2.size)
      clear hb2 hb3
      go_wp2_with fail
      go_ret
      exact ⟨rfl, hbb⟩
end Go.Proofs.YtdhdknjefjolpaaDoor
end
section
/-
  gannetref33.Decimal.
-/
namespace Go.Proofs.YtdhdknjefjolpaaDoor
set_option linter.unusedSimpArgs false
set_option linter.unusedVariables false
set_option maxRecDepth 10000
open Go.RowKit Go.Shelf Pl
theorem dig10_cut : ∀ k, k < 10 → (⟨#[48, 49, 50, 51, 52, 53, 54, 55, 56, 57]⟩ : ByteArray).extract k (k + 1) = ⟨#[dgt k]⟩ := by decide
/-- Digits, none at nought. -/
def decP (k n : Nat) : List UInt8 := if n = 0 then [] else decK k n
theorem decP_step (k n : Nat) (hn : n < 10 ^ (k + 1)) (hk : 0 < k) (h0 : 0 < n) : decP (k + 1) n = decP (k + 1) (n / 10) ++ [dgt (n % 10)] := by
  unfold decP
  rw [if_neg (by omega), decK]
  by_cases h : n < 10
  · rw [if_pos h, if_pos (by omega), Nat.mod_eq_of_lt h]
    rfl
  · rw [if_neg h, if_neg (by omega)]
    rw [decK_succ k (n / 10) (by rw [Nat.pow_succ] at hn; omega) hk]
set_option maxHeartbeats 8000000 in
theorem rdec_calls (n : Nat) (w : World) (h63 : n ≤ 9223372036854775807) : Calls Tryd.prog 48 #[.int .i64 (n : Int)] w fun e w' => e = .returned (.string ⟨(decL n).toArray⟩) ∧ Below w.heap.size w w' := by
  by_cases h0 : n = 0
  · subst h0
    go_enter Tryd.func48, Tryd.ntmps48
    go_wp2_with fail
    go_ret
    exact ⟨rfl, Below.refl _ _⟩
  · have hz : ((n : Int) == 0) = false := by rw [beq_eq_false_iff_ne]; omega
    have hR : decL n = decP 19 n := by unfold decL decP; rw [if_neg h0]
    have HR := hide hR
    clear hR h0
    go_enter Tryd.func48, Tryd.ntmps48
    go_wp2_with fail
    go_loopw [0, 3] (fun v0 v3 wr => ∃ (m : Nat) (s : List UInt8), m ≤ 9223372036854775807 ∧ v0 = .int .i64 (m : Int) ∧ v3 = .string ⟨s.toArray⟩ ∧ Hid (decP 19 m ++ s = decL n) ∧ s.length ≤ 19 ∧ wr = w) (fun v0 _ _ => (intOf v0).toNat)
    case atStart => exact ⟨n, [], h63, rfl, rfl, by unfold Hid; rw [List.append_nil, HR.out], by simp, rfl⟩
    case round =>
      obtain ⟨m, s, hm, rfl, rfl, hs, hsl, rfl⟩ := hrel
      rcases Nat.eq_zero_or_pos m with h0 | hpos
      · subst h0
        have hs2 : Hid (s = decL n) := by have := hs.out; unfold decP at this; rw [if_pos rfl, List.nil_append] at this; exact this
        have k1 : (decide ((0 : Int) < 0)) = false := rfl
        go_wp2_with fail
        go_ret
        rw [hs2.out]
        exact ⟨rfl, Below.refl _ _⟩
      · have k1 : (0 : Int) < (m : Int) := by omega
        have hst := decP_step 18 m (by have : (10 : Nat) ^ 19 = 10000000000000000000 := by decide
                                       omega) (by omega) hpos
        have hss := hs.out
        rw [hst, List.append_assoc] at hss
        have HS := hide hss
        have hlen : ([dgt (m % 10)] ++ s).length ≤ 19 := by
          have h := congrArg List.length hss
          rw [List.length_append] at h
          have := decK_len 19 n
          unfold decL at h
          omega
        have hq63 : m / 10 ≤ 9223372036854775807 := by omega
        have hlt : m / 10 < m := by omega
        have hwq : wrap64 ((m / 10 : Nat) : Int) = ((m / 10 : Nat) : Int) := by unfold wrap64; omega
        have e3 : Int.tdiv (m : Int) 10 = ((m / 10 : Nat) : Int) := by rw [Int.tdiv_eq_ediv_of_nonneg (by omega)]; omega
        have e4 : Int.tmod (m : Int) 10 = ((m % 10 : Nat) : Int) := by rw [Int.tmod_eq_emod_of_nonneg (by omega)]; omega
        have e1 : (m : Int) / 10 = ((m / 10 : Nat) : Int) := by omega
        have e2 : (m : Int) % 10 = ((m % 10 : Nat) : Int) := by omega
        have hd : m % 10 < 10 := Nat.mod_lt _ (by omega)
        clear hst hss
        generalize m / 10 = q at *
        generalize m % 10 = d at *
        have hcut := dig10_cut d hd
        have hcat : (⟨#[dgt d]⟩ : ByteArray) ++ ⟨s.toArray⟩ = ⟨([dgt d] ++ s).toArray⟩ := cat_bytes [dgt d] s
        have hs1 := strS s
        have g1 : (d : Int) ≤ (d : Int) + 1 := by omega
        have g2 : (d : Int) + 1 ≤ 10 := by omega
        have g3 : (d : Int) < 10 := by omega
        go_wp2_with fail
        refine ⟨⟨q, [dgt d] ++ s, hq63, rfl, rfl, HS.out, hlen, trivial⟩, ?_⟩
        simp [intOf] <;> omega
end Go.Proofs.YtdhdknjefjolpaaDoor
end
section
/-
  strings.Builder inside script.writer: WriteString.
-/
namespace Go.Proofs.YtdhdknjefjolpaaDoor
set_option linter.unusedSimpArgs false
set_option linter.unusedVariables false
set_option maxRecDepth 10000
open Go.RowKit Go.Shelf Pl
theorem sizeBld : (Tryd.prog.info? 76).map (·.size) = some 2 := by kernel_rfl
theorem liesBld : liesAt Tryd.prog Tryd.prog.depth 78 (2 / Tryd.prog.cellsOf 78) 0 76 1 = true := by kernel_rfl
set_option maxHeartbeats 2000000 in
theorem wCheck_used (b : Nat) (w : World) (h0 : w.cell? ⟨b, 0, none⟩ = some (.pointer (some ⟨b, 0, none⟩))) :
    Calls Tryd.prog 66 #[.pointer (some ⟨b, 0, none⟩)] w fun e w' => e = .returned (.tuple #[]) ∧ w' = w := by
  obtain ⟨j, hj, _⟩ := Option.map_eq_some_iff.1 sizeBld
  go_enter Tryd.func66, Tryd.ntmps66
  go_wp2
  rw [Lib.run_neq_ptr_same w _ Tryd.underlying74 hj]
  go_wp2
  go_end0
  exact ⟨rfl, rfl⟩
set_option maxHeartbeats 2000000 in
theorem wCheck_fresh (b : Nat) (w : World) (h0 : w.cell? ⟨b, 0, none⟩ = some (.pointer none)) (hsh : w.shape? b = some (78, 2)) (hfz : w.frozen? ⟨b, 0, none⟩ = false) :
    Calls Tryd.prog 66 #[.pointer (some ⟨b, 0, none⟩)] w fun e w' => e = .returned (.tuple #[]) ∧ w' = w.setCell ⟨b, 0, none⟩ (.pointer (some ⟨b, 0, none⟩)) := by
  obtain ⟨j, hj, hjs⟩ := Option.map_eq_some_iff.1 sizeBld
  go_enter Tryd.func66, Tryd.ntmps66
  go_wp2
  rw [Lib.run_to_unsafe w ⟨b, 0, none⟩ Tryd.underlying74 Tryd.underlying129 hj (by rw [hjs]; decide) hsh (Nat.zero_lt_succ 1)]
  simp only [Result.andThen]
  rw [Oper.upon_value]
  go_wp2
  rw [run_callFunc_extern Tryd.func84 (by kernel_rfl) (by kernel_rfl) (by kernel_rfl) (e := Extern.AbiNoEscape.same) (by kernel_rfl)]
  rw [Lib.run_noEscape]
  simp only [Result.andThen]
  rw [Oper.upon_value]
  go_wp2
  rw [Lib.run_from_unsafe w ⟨b, 0, none⟩ Tryd.underlying129 Tryd.underlying74 hj hsh liesBld]
  simp only [Result.andThen]
  rw [Oper.upon_value]
  go_wp2
  go_end0
  exact ⟨rfl, rfl⟩
/-- A writer that holds bytes. -/
def WrB (B b : Nat) (l : List UInt8) (w : World) : Prop := Lib.IsBuilder 78 5 B b (Lib.byteCells l) w
end Go.Proofs.YtdhdknjefjolpaaDoor
end
section
/-
  script: row, told, the closures that make a row's head.
-/
namespace Go.Proofs.YtdhdknjefjolpaaDoor
set_option linter.unusedSimpArgs false
set_option linter.unusedVariables false
set_option maxRecDepth 10000
open Go.RowKit Go.Shelf Pl
/-- A row's text. -/
def rowT (L : List (List UInt8)) : List UInt8 := Lib.join L [32] ++ [10]
set_option maxHeartbeats 4000000 in
theorem row_calls (b off c : Nat) (L : List (List UInt8)) (w : World) (hL : WsAt w (some ⟨b, off, none⟩) L) (hb : b < w.heap.size) (hn : L.length ≤ 1000) (hcap : L.length ≤ c) (hl : (Lib.join L [32]).length ≤ 1000000) :
    Calls Tryd.prog 38 #[.slice (some ⟨b, off, none⟩) L.length c] w fun e w' => e = .returned (.string ⟨(rowT L).toArray⟩) ∧ Below w.heap.size w w' := by
  have hm : (L.map str).map (·.data.toList) = L := by
    rw [List.map_map]
    conv => rhs; rw [← List.map_id L]
    apply List.map_congr_left
    intro x _
    rfl
  have hj := Tryd.strings_Join b off c (L.map str) ⟨#[32]⟩ w (fun j x hx => by
    rw [List.getElem?_map] at hx
    cases e : L[j]? with
    | none => rw [e] at hx; cases hx
    | some y =>
      rw [e] at hx
      cases hx
      obtain ⟨b', off', e', _, h⟩ := hL j y e
      cases e'
      exact h) hb (by rw [List.length_map]; omega) (by rw [List.length_map]; exact hcap) (by rw [hm]; show (Lib.join L [32]).length ≤ _; omega)
  rw [hm, List.length_map] at hj
  have hj : Calls Tryd.prog 67 #[.slice (some ⟨b, off, none⟩) L.length c, .string ⟨#[32]⟩] w fun e w' => e = .returned (.string ⟨(Lib.join L [32]).toArray⟩) ∧ Below w.heap.size w w' := hj
  have hcat : (⟨(Lib.join L [32]).toArray⟩ : ByteArray) ++ ⟨#[10]⟩ = ⟨(rowT L).toArray⟩ := cat_bytes _ [10]
  have hs := strS (Lib.join L [32])
  clear hm hL
  generalize Lib.join L [32] = J at *
  generalize L.length = n at *
  go_enter Tryd.func38, Tryd.ntmps38
  go_wp2_with fail
  refine hj.mono ?_
  clear hj
  rintro e w2 ⟨rfl, hb2⟩
  go_wp2_with fail
  go_ret
  exact ⟨rfl, hb2⟩
def hex2 (a : Nat) : List UInt8 := hexT a 2
set_option maxHeartbeats 4000000 in
theorem told_calls (o : Option Addr) (n c : Nat) (F : Nat → Nat) (w : World) (hn : n ≤ 1000) (hF : ∀ i, F i < 256) (hL : NumsAt w .u8 o n (fun i => (F i : Int))) :
    Calls Tryd.prog 69 #[.slice o n c] w fun e w' => ∃ v, e = .returned v ∧ w'.ownsRow w.heap.size 9 1 v n (((List.range n).map fun i => hex2 (F i)).map vS) ∧ (n = 0 → v = .slice none 0 0) ∧ Below w.heap.size w w' := by
  obtain ⟨i0, hi, hz0, hz1, hz2⟩ := info_parts infoStr
  have HL := hide hL
  clear hL
  go_enter Tryd.func69, Tryd.ntmps69
  go_wp2_with fail
  go_loopw [3, 8] (fun v3 v8 wr => ∃ (k : Nat) (V : Value), k ≤ n ∧ V = v3 ∧ v8 = .int .i64 (k : Int) ∧ wr.ownsRow w.heap.size 9 1 V k (((List.range k).map fun i => hex2 (F i)).map vS) ∧ (k = 0 → V = .slice none 0 0) ∧ Below w.heap.size w wr) (fun _ v8 _ => n - (intOf v8).toNat)
  case atStart => exact ⟨0, _, by omega, rfl, rfl, World.ownsRow_nil _ _ _ _, fun _ => rfl, Below.refl _ _⟩
  case round =>
    obtain ⟨k, V, hk, hV, rfl, hown, hV0, hb⟩ := hrel
    subst hV
    rcases Nat.lt_or_ge k n with hlt | hge
    · obtain ⟨bb, off, rfl, hbl, hc0⟩ := HL.out k hlt
      have hc : wr.cell? ⟨bb, off + k, none⟩ = some (.int .u8 (F k : Int)) := (World.cell?_of_block (hb.block bb hbl)).trans hc0
      have k1 : (k : Int) < (n : Int) := by omega
      have hfk := hF k
      have hw : IntKind.u32.wrap (F k : Int) = (F k : Int) := by rw [IntKind.wrap_u32]; omega
      have hhx : Calls Tryd.prog 43 #[.int .u32 (F k : Int), .int .i64 2] wr fun e w' => e = .returned (.string ⟨(hex2 (F k)).toArray⟩) ∧ Below wr.heap.size wr w' := octHex_calls (F k) 2 wr (by omega) (by omega) (by omega)
      have hbase := hb.size
      clear hc0
      go_wp2_with fail
      refine hhx.mono ?_
      clear hhx hc
      rintro e w2 ⟨rfl, hb2⟩
      have hown2 := own1_keep hown (fun g hg => hb2.block g (own1_lt hown hg))
      have hb02 := hb.trans (hb2.mono hbase)
      have hbase2 := hb02.size
      clear hown hb hb2
      go_wp2_with (at_builtin; refine wpList_append_one rfl _ _ 45 rfl w.heap.size 9 i0 _ 16 Tryd.underlying45 hi hz0 hz1 hz2 rfl _ k _ rfl hown2 (.string ⟨(hex2 (F k)).toArray⟩) rfl rfl (by unfold maxLen; omega) (by omega) hbase2 ?_; intro gg cap w3 hown3 hkp)
      have hb3 := hb02.trans hkp.1
      clear hown2 hb02 hkp hV0
      go_roundw
      case rel => exact ⟨k + 1, _, by omega, rfl, by go_num, by rw [List.range_succ, List.map_append, List.map_append]; exact hown3, fun h => by omega, hb3⟩
      case measure => simp [intOf]; omega
    · obtain rfl : k = n := by omega
      have k2 : (decide ((k : Int) < (k : Int))) = false := decide_eq_false (by omega)
      rcases Nat.eq_zero_or_pos k with h0 | hpos
      · subst h0
        obtain rfl := hV0 rfl
        go_wp2_with fail
        go_ret
        exact ⟨.slice none 0 0, rfl, hown, (by first | rfl | exact fun _ => rfl), hb⟩
      · obtain ⟨g, cap, cur, rfl, _⟩ := own1_row hown hpos
        clear hV0
        go_wp2_with fail
        go_ret
        exact ⟨_, rfl, hown, fun h => by omega, hb⟩
end Go.Proofs.YtdhdknjefjolpaaDoor
end
section
/-
  gannetref33.row: bytes, in rows.
-/
namespace Go.Proofs.YtdhdknjefjolpaaDoor
set_option linter.unusedSimpArgs false
set_option linter.unusedVariables false
set_option maxRecDepth 10000
open Go.RowKit Go.Shelf Pl
/-- Behind k bytes of a row's text. -/
def rwK (head : List UInt8) (at_ n : Nat) (F : Nat → Nat) : Nat → List UInt8
  | 0 => []
  | k + 1 => rwK head at_ n F k ++ (if k % 16 = 0 then head ++ (if head = wRom then 32 :: hexT (at_ + k) 6 else []) else []) ++ (32 :: hexT (F k) 2) ++ (if k % 16 = 15 ∨ k + 1 = n then [10] else [])
theorem rwK_len (head : List UInt8) (at_ n : Nat) (F : Nat → Nat) (hh : head.length ≤ 4) : ∀ k, (rwK head at_ n F k).length ≤ k * 15
  | 0 => Nat.le_refl _
  | k + 1 => by
    have ih := rwK_len head at_ n F hh k
    rw [rwK, List.length_append, List.length_append, List.length_append]
    have h1 : (if k % 16 = 0 then head ++ (if head = wRom then 32 :: hexT (at_ + k) 6 else []) else []).length ≤ 11 := by
      split
      · rw [List.length_append]
        split
        · simp [hexT_len]; omega
        · simp; omega
      · simp
    have h2 : ((32 : UInt8) :: hexT (F k) 2).length = 3 := by simp [hexT_len]
    have h3 : (if k % 16 = 15 ∨ k + 1 = n then [(10 : UInt8)] else []).length ≤ 1 := by split <;> simp
    omega
theorem rhex2 (n : Nat) (w : World) (hn : n < 4294967296) : Calls Tryd.prog 72 #[.int .u32 (n : Int), .int .i64 2] w fun e w' => e = .returned (.string ⟨(hexT n 2).toArray⟩) ∧ w = w' := refHex_calls n 2 w hn (by omega) (by omega)
theorem rhex6 (n : Nat) (w : World) (hn : n < 4294967296) : Calls Tryd.prog 72 #[.int .u32 (n : Int), .int .i64 6] w fun e w' => e = .returned (.string ⟨(hexT n 6).toArray⟩) ∧ w = w' := refHex_calls n 6 w hn (by omega) (by omega)
set_option maxRecDepth 100000 in
set_option maxHeartbeats 8000000 in
theorem rrow_calls (h : List UInt8) (at_ n c : Nat) (o : Option Addr) (F : Nat → Nat) (w : World) (hh : h.length ≤ 4) (hat : at_ + n ≤ 1048576) (hn : n ≤ 1048576) (hF : ∀ i, F i < 256) (hL : NumsAt w .u8 o n (fun i => (F i : Int))) :
    Calls Tryd.prog 50 #[.string ⟨h.toArray⟩, .int .i64 (at_ : Int), .slice o n c] w fun e w' => e = .returned (.string ⟨(rwK h at_ n F n).toArray⟩) ∧ w = w' := by
  have HL := hide hL
  clear hL
  go_enter Tryd.func50, Tryd.ntmps50
  go_wp2_with fail
  go_loopw [7, 8] (fun v7 v8 wr => ∃ k : Nat, k ≤ n ∧ v8 = .int .i64 (k : Int) ∧ v7 = .string ⟨(rwK h at_ n F k).toArray⟩ ∧ wr = w) (fun _ v8 _ => n - (intOf v8).toNat)
  case atStart => exact ⟨0, by omega, rfl, rfl, rfl⟩
  case round =>
    obtain ⟨k, hk, rfl, rfl, rfl⟩ := hrel
    have hlen := rwK_len h at_ n F hh k
    rcases Nat.lt_or_ge k n with hlt | hge
    · obtain ⟨bb, off, rfl, hbl, hc⟩ := HL.out k hlt
      have k1 : (k : Int) < (n : Int) := by omega
      have hfk := hF k
      have hw : IntKind.u32.wrap (F k : Int) = (F k : Int) := by rw [IntKind.wrap_u32]; omega
      have hw6 : IntKind.u32.wrap ((at_ : Int) + (k : Int)) = ((at_ + k : Nat) : Int) := by rw [IntKind.wrap_u32]; omega
      have h2 := rhex2 (F k) wr (by omega)
      have h6 := rhex6 (at_ + k) wr (by omega)
      have l2 : (hexT (F k) 2).length = 2 := hexT_len _ _
      have l6 : (hexT (at_ + k) 6).length = 6 := hexT_len _ _
      have HR := hide (show rwK h at_ n F (k + 1) = rwK h at_ n F k ++ (if k % 16 = 0 then h ++ (if h = wRom then 32 :: hexT (at_ + k) 6 else []) else []) ++ (32 :: hexT (F k) 2) ++ (if k % 16 = 15 ∨ k + 1 = n then [10] else []) from rfl)
      have e3 : Int.tmod (k : Int) 16 = ((k % 16 : Nat) : Int) := by rw [Int.tmod_eq_emod_of_nonneg (by omega)]; omega
      have e1 : (k : Int) % 16 = ((k % 16 : Nat) : Int) := by omega
      have hcat : ∀ x y : List UInt8, (⟨x.toArray⟩ : ByteArray) ++ ⟨y.toArray⟩ = ⟨(x ++ y).toArray⟩ := cat_bytes
      have hcat32 : ∀ x : List UInt8, (⟨x.toArray⟩ : ByteArray) ++ ⟨#[32]⟩ = ⟨(x ++ [32]).toArray⟩ := fun x => cat_bytes x [32]
      have hcat10 : ∀ x : List UInt8, (⟨x.toArray⟩ : ByteArray) ++ ⟨#[10]⟩ = ⟨(x ++ [10]).toArray⟩ := fun x => cat_bytes x [10]
      have hsz : ∀ x : List UInt8, (⟨x.toArray⟩ : ByteArray).size = x.length := strS
      generalize rwK h at_ n F k = S at *
      generalize hmd : k % 16 = md at *
      generalize hexT (F k) 2 = A at *
      generalize hexT (at_ + k) 6 = D at *
      by_cases m0 : md = 0
      · have q0 : ((md : Int) == 0) = true := by rw [m0]; rfl
        by_cases hw : h = wRom
        · have qh : (h == [114, 111, 109]) = true := beq_iff_eq.2 hw
          have r1 : (if md = 0 then h ++ (if h = wRom then 32 :: D else []) else []) = h ++ 32 :: D := by rw [if_pos m0, if_pos hw]
          have m15 : md ≠ 15 := by omega
          clear hw m0
          have q15 : ((md : Int) == 15) = false := by rw [beq_eq_false_iff_ne]; omega
          by_cases hl : k + 1 = n
          · have ql : (((k : Int) + 1) == (n : Int)) = true := by rw [beq_iff_eq]; omega
            have r2 : (if md = 15 ∨ k + 1 = n then [(10 : UInt8)] else []) = [10] := if_pos (Or.inr hl)
            have HL2 := hide hl
            clear hl
            have hr := HR.out
            rw [r1, r2] at hr
            have HR2 := hide hr
            clear r1 r2 hr HR hmd HL
            go_wp2_with fail
            refine h6.mono ?_
            clear h6
            rintro e w2 ⟨rfl, rfl⟩
            go_wp2_with fail
            refine h2.mono ?_
            clear h2
            rintro e w2 ⟨rfl, rfl⟩
            go_wp2_with fail
            refine ⟨⟨k + 1, by omega, by go_num, by rw [HR2.out]; simp, trivial⟩, ?_⟩
            simp [intOf] <;> omega
          · have ql : (((k : Int) + 1) == (n : Int)) = false := by rw [beq_eq_false_iff_ne]; omega
            have r2 : (if md = 15 ∨ k + 1 = n then [(10 : UInt8)] else []) = [] := if_neg (by omega)
            have HL2 := hide hl
            clear hl
            have hr := HR.out
            rw [r1, r2] at hr
            have HR2 := hide hr
            clear r1 r2 hr HR hmd HL
            go_wp2_with fail
            refine h6.mono ?_
            clear h6
            rintro e w2 ⟨rfl, rfl⟩
            go_wp2_with fail
            refine h2.mono ?_
            clear h2
            rintro e w2 ⟨rfl, rfl⟩
            go_wp2_with fail
            refine ⟨⟨k + 1, by omega, by go_num, by rw [HR2.out]; simp, trivial⟩, ?_⟩
            simp [intOf] <;> omega
        · have qh : (h == [114, 111, 109]) = false := beq_eq_false_iff_ne.2 hw
          have r1 : (if md = 0 then h ++ (if h = wRom then 32 :: D else []) else []) = h := by rw [if_pos m0, if_neg hw, List.append_nil]
          have m15 : md ≠ 15 := by omega
          clear hw m0 h6
          have q15 : ((md : Int) == 15) = false := by rw [beq_eq_false_iff_ne]; omega
          by_cases hl : k + 1 = n
          · have ql : (((k : Int) + 1) == (n : Int)) = true := by rw [beq_iff_eq]; omega
            have r2 : (if md = 15 ∨ k + 1 = n then [(10 : UInt8)] else []) = [10] := if_pos (Or.inr hl)
            have HL2 := hide hl
            clear hl
            have hr := HR.out
            rw [r1, r2] at hr
            have HR2 := hide hr
            clear r1 r2 hr HR hmd HL
            go_wp2_with fail
            refine h2.mono ?_
            clear h2
            rintro e w2 ⟨rfl, rfl⟩
            go_wp2_with fail
            refine ⟨⟨k + 1, by omega, by go_num, by rw [HR2.out]; simp, trivial⟩, ?_⟩
            simp [intOf] <;> omega
          · have ql : (((k : Int) + 1) == (n : Int)) = false := by rw [beq_eq_false_iff_ne]; omega
            have r2 : (if md = 15 ∨ k + 1 = n then [(10 : UInt8)] else []) = [] := if_neg (by omega)
            have HL2 := hide hl
            clear hl
            have hr := HR.out
            rw [r1, r2] at hr
            have HR2 := hide hr
            clear r1 r2 hr HR hmd HL
            go_wp2_with fail
            refine h2.mono ?_
            clear h2
            rintro e w2 ⟨rfl, rfl⟩
            go_wp2_with fail
            refine ⟨⟨k + 1, by omega, by go_num, by rw [HR2.out]; simp, trivial⟩, ?_⟩
            simp [intOf] <;> omega
      · have q0 : ((md : Int) == 0) = false := by rw [beq_eq_false_iff_ne]; omega
        have r1 : (if md = 0 then h ++ (if h = wRom then 32 :: D else []) else []) = [] := if_neg m0
        clear m0 h6
        by_cases m15 : md = 15
        · have q15 : ((md : Int) == 15) = true := by rw [m15]; rfl
          have r2 : (if md = 15 ∨ k + 1 = n then [(10 : UInt8)] else []) = [10] := if_pos (Or.inl m15)
          clear m15
          have hr := HR.out
          rw [r1, r2] at hr
          have HR2 := hide hr
          clear r1 r2 hr HR hmd HL
          go_wp2_with fail
          refine h2.mono ?_
          clear h2
          rintro e w2 ⟨rfl, rfl⟩
          go_wp2_with fail
          refine ⟨⟨k + 1, by omega, by go_num, by rw [HR2.out]; simp, trivial⟩, ?_⟩
          simp [intOf] <;> omega
        · skip
          have q15 : ((md : Int) == 15) = false := by rw [beq_eq_false_iff_ne]; omega
          by_cases hl : k + 1 = n
          · have ql : (((k : Int) + 1) == (n : Int)) = true := by rw [beq_iff_eq]; omega
            have r2 : (if md = 15 ∨ k + 1 = n then [(10 : UInt8)] else []) = [10] := if_pos (Or.inr hl)
            have HL2 := hide hl
            clear hl
            have hr := HR.out
            rw [r1, r2] at hr
            have HR2 := hide hr
            clear r1 r2 hr HR hmd HL
            go_wp2_with fail
            refine h2.mono ?_
            clear h2
            rintro e w2 ⟨rfl, rfl⟩
            go_wp2_with fail
            refine ⟨⟨k + 1, by omega, by go_num, by rw [HR2.out]; simp, trivial⟩, ?_⟩
            simp [intOf] <;> omega
          · have ql : (((k : Int) + 1) == (n : Int)) = false := by rw [beq_eq_false_iff_ne]; omega
            have r2 : (if md = 15 ∨ k + 1 = n then [(10 : UInt8)] else []) = [] := if_neg (by omega)
            have HL2 := hide hl
            clear hl
            have hr := HR.out
            rw [r1, r2] at hr
            have HR2 := hide hr
            clear r1 r2 hr HR hmd HL
            go_wp2_with fail
            refine h2.mono ?_
            clear h2
            rintro e w2 ⟨rfl, rfl⟩
            go_wp2_with fail
            refine ⟨⟨k + 1, by omega, by go_num, by rw [HR2.out]; simp, trivial⟩, ?_⟩
            simp [intOf] <;> omega
    · obtain rfl : k = n := by omega
      have k2 : (decide ((k : Int) < (k : Int))) = false := decide_eq_false (by omega)
      go_wp2_with fail
      go_ret
      exact ⟨rfl, rfl⟩
end Go.Proofs.YtdhdknjefjolpaaDoor
end
section
/-
  A script's text: plain.
-/
namespace Go.Proofs.YtdhdknjefjolpaaDoor
set_option linter.unusedSimpArgs false
set_option linter.unusedVariables false
set_option maxRecDepth 10000
open Go.RowKit Go.Shelf Pl
theorem decL_len (n : Nat) : (decL n).length ≤ 19 := by
  unfold decL
  exact decK_len 19 n
/-- Pieces as lines. -/
def pcT (F : Nat → Nat) (ps : List (Nat × Nat)) : List UInt8 := ps.flatMap fun x => rwK wRom x.1 (x.2 - x.1) (fun j => F (x.1 + j)) (x.2 - x.1)
/-- An edge as a line. -/
def edT (St : Nat → Nat) (Ln : Nat → Nat) (Up : Nat → Bool) (i : Nat) : List UInt8 := (if Up i then wUp else wDown) ++ 32 :: decL (St i) ++ 32 :: nmF (Ln i) ++ [10]
def edsT (St : Nat → Nat) (Ln : Nat → Nat) (Up : Nat → Bool) (n : Nat) : List UInt8 := (List.range n).flatMap (edT St Ln Up)
def txA (n : Nat) : List UInt8 := wPages ++ 32 :: decL (n / 8192) ++ [10]
def txB (n : Nat) (F : Nat → Nat) : List UInt8 := txA n ++ pcT F (runsP (fun i => (F i : Int)) n)
def txC (n : Nat) (F : Nat → Nat) (l0 l1 l2 : Nat) (F0 F1 F2 : Nat → Nat) : List UInt8 := txB n F ++ rwK wVdc 0 l0 F0 l0 ++ rwK wVce 0 l1 F1 l1 ++ rwK wPort 0 l2 F2 l2
/-- A script as a text. -/
def txT (n : Nat) (F : Nat → Nat) (l0 l1 l2 : Nat) (F0 F1 F2 : Nat → Nat) (ne : Nat) (St : Nat → Nat) (Ln : Nat → Nat) (Up : Nat → Bool) (bud : Nat) : List UInt8 :=
  txC n F l0 l1 l2 F0 F1 F2 ++ edsT St Ln Up ne ++ wBudget ++ 32 :: decL bud ++ [10]
theorem pcT_snoc (F : Nat → Nat) (ps : List (Nat × Nat)) (k : Nat) (h : k < ps.length) : pcT F (ps.take (k + 1)) = pcT F (ps.take k) ++ rwK wRom (pA ps k) (pN ps k) (fun j => F (pA ps k + j)) (pN ps k) := by
  unfold pcT
  rw [List.take_add_one, List.getElem?_eq_getElem h, List.flatMap_append]
  congr 1
  unfold pA pN
  rw [List.getD_eq_getElem?_getD, List.getElem?_eq_getElem h]
  simp
theorem edsT_snoc (St : Nat → Nat) (Ln : Nat → Nat) (Up : Nat → Bool) (n : Nat) : edsT St Ln Up (n + 1) = edsT St Ln Up n ++ edT St Ln Up n := by simp [edsT, List.range_succ]
end Go.Proofs.YtdhdknjefjolpaaDoor
end
