/-
  Package phys: Text, Of; gannetref03: Text, Of.
-/
import Derived.Test.YtmlkmaeihkgdlaaR03
import Derived.Test.YtmlkmaeihkgdlaaSpan2
import Derived.Test.YtmlkmaeihkgdlaaR01c
import Derived.Test.YtmlkmaeihkgdlaaBptx
namespace Go.Proofs.Ytmlkmaeihkgdlaa
open Go.RowKit Pl

theorem octHexK_calls (n k : Nat) (x : Int) (w : World) (hx : x = n) (hn : n < 4294967296) (hk : clampK (k : Int) = k) :
    Calls Try.prog 15 #[.int .u32 x, .int .i64 (k : Int)] w fun e w' => e = .returned (.string ⟨(hexT n k).toArray⟩) ∧ Below w.heap.size w w' := by
  subst hx
  have hc := clampK_le k
  have h := octHex_calls n k w hn (by omega) (by omega)
  rw [hk] at h
  exact h
theorem phText_calls (a : Nat) (w : World) (ha : a < 4294967296) :
    Calls Try.prog 8 #[.int .u32 (a : Int)] w fun e w' => e = .returned (.string ⟨(tx a).toArray⟩) ∧ Below w.heap.size w w' := by
  have hB := bnk_lt a
  have ho : a % 8192 < 8192 := Nat.mod_lt _ (by omega)
  have hz1 : (hexT (bnk a) 2).length ≤ 8 := by rw [hexT_len]; omega
  have hz2 : (hexT (a % 8192) 4).length ≤ 8 := by rw [hexT_len]; omega
  have htx : tx a = hexT (bnk a) 2 ++ 58 :: hexT (a % 8192) 4 := rfl
  have hoff := phOff_calls a
  have hbk := phBank_calls a
  generalize a % 8192 = o at *
  generalize bnk a = b at *
  have Htx := hide htx
  clear htx
  go_enter Try.func8, Try.ntmps8
  (go_wp2_with fail; refine Cl.p (hbk _ ha) ?_)
  go_wp2_with fail
  refine Cl.m (octHexK_calls b 2 _ _ rfl (by omega) rfl) ?_
  intro w1 hb1
  (go_wp2_with fail; refine Cl.p (hoff _ ha) ?_)
  go_wp2_with fail
  refine Cl.m (octHexK_calls o 4 _ _ rfl (by omega) rfl) ?_
  intro w2 hb2
  go_wp2_with fail
  go_ret
  exact ⟨congrArg (fun x => Ending.returned (.string x)) (by rw [Htx.out]; apply ByteArray.ext; simp), by (repeat (first | exact Below.refl _ _ | assumption | refine Below.drew ?_ | refine Bl.alloc ?_ _ | refine below_drewN ?_ _ | refine Bl.chain ?_ (by assumption) (Nat.le_refl _)))⟩
theorem ofP_len (s : ByteArray) (h : ¬ s.size = 7) : ofP s.toList = (0, 3) := by unfold ofP; rw [str_len, if_neg (fun e => h e.1)]
theorem ofP_two (s : ByteArray) (h : ¬ s.toList[2]? = some 58) : ofP s.toList = (0, 3) := by unfold ofP; rw [if_neg (fun e => h e.2)]
theorem ex_take (s : ByteArray) (h : s.size = 7) : (s.extract 0 2).toList = s.toList.take 2 := by
  rw [ByteArray.toList_eq, ByteArray.toList_eq]
  simp
theorem ex_drop (s : ByteArray) (h : s.size = 7) : (s.extract 3 7).toList = s.toList.drop 3 := by
  rw [ByteArray.toList_eq, ByteArray.toList_eq]
  have h' : s.data.toList.length = 7 := by simpa using h
  simp [List.extract_eq_take_drop]
  rw [List.take_of_length_le (by simp [h'])]
theorem ex_lt (s : ByteArray) (i j : Nat) (h : s.size = 7) : (s.extract i j).size ≤ maxLen := by
  rw [ByteArray.size_extract, h]
  unfold maxLen
  omega
theorem s2_at (s : ByteArray) (h : 2 < s.size) (hc : s[2].toNat = 58) : s.toList[2]? = some 58 := by
  rw [str_at' s 2 h]
  exact congrArg some (UInt8.toNat_inj.1 hc)
theorem s2_no (s : ByteArray) (h : 2 < s.size) (hc : ¬ s[2].toNat = 58) : ¬ s.toList[2]? = some 58 := by
  rw [str_at' s 2 h]
  intro e
  injection e with e
  rw [e] at hc
  exact hc rfl
theorem ofP_in (s : ByteArray) (b o eb eo : Nat) (h7 : s.size = 7) (h2 : s.toList[2]? = some 58) (h1 : fh (s.extract 0 2).toList = (b, eb)) (h3 : fh (s.extract 3 7).toList = (o, eo)) :
    ofP s.toList = if eb = 0 ∧ eo = 0 ∧ o < 8192 then (b * 8192 + o, 0) else (0, 3) := by
  rw [ex_take s h7] at h1
  rw [ex_drop s h7] at h3
  unfold ofP
  rw [str_len, if_pos ⟨h7, h2⟩, h1, h3]
theorem b_lt (s : ByteArray) (b : Nat) (h7 : s.size = 7) (h1 : fh (s.extract 0 2).toList = (b, 0)) : b < 256 := by
  rw [ex_take s h7] at h1
  have := (fh_some h1).2
  have hl1 : (s.toList.take 2).length ≤ 2 := by simp; omega
  have : 16 ^ (s.toList.take 2).length ≤ 16 ^ 2 := Nat.pow_le_pow_right (by omega) hl1
  omega
theorem fh_lt32 (l : List UInt8) : (fh l).1 < 4294967296 := by
  by_cases h : (fh l).2 = 0
  · obtain ⟨f, g⟩ := fh_some (s := l) (n := (fh l).1) (by rw [← h])
    have hl : l.length ≤ 8 := by
      rcases Nat.lt_or_ge 8 l.length with h8 | h8
      · exfalso
        unfold fh at h
        split at h
        · simp at h
        · simp [h8] at h
      · exact h8
    have : 16 ^ l.length ≤ 16 ^ 8 := Nat.pow_le_pow_right (by omega) hl
    omega
  · unfold fh at h ⊢
    split
    · simp
    · split
      · simp
      · rename_i h1 h2
        rw [if_neg h1, if_neg h2] at h
        cases hf : hfold l 0 with
        | none => simp
        | some m => rw [hf] at h; simp at h

theorem phOf_calls (s : ByteArray) (w : World) (hs : s.size ≤ maxLen) :
    Calls Try.prog 7 #[.string s] w fun e w' => e = .returned (fhV (ofP s.toList)) ∧ Below w.heap.size w w' := by
  unfold maxLen at hs
  by_cases h7 : s.size = 7
  · have h7' : ((s.size : Int) != 7) = false := by rw [h7]; rfl
    have h2s : 2 < s.size := by omega
    by_cases hc : s[2].toNat = 58
    · have hc' : ((s[2].toNat : Int) != 58) = false := by rw [hc]; rfl
      have hx1 := octFromHex_calls (s.extract 0 2)
      have hx2 := octFromHex_calls (s.extract 3 7)
      have hz1 := ex_lt s 0 2 h7
      have hz2 := ex_lt s 3 7 h7
      have hin := fun b o eb eo => ofP_in s b o eb eo h7 (s2_at s h2s hc)
      have hbl := fun b => b_lt s b h7
      have ho32 : (fh (s.extract 3 7).toList).1 < 4294967296 := fh_lt32 _
      have hb32 : (fh (s.extract 0 2).toList).1 < 4294967296 := fh_lt32 _
      generalize fh (s.extract 0 2).toList = rb at *
      generalize fh (s.extract 3 7).toList = ro at *
      obtain ⟨b, eb⟩ := rb
      obtain ⟨o, eo⟩ := ro
      have hin := hin b o eb eo rfl rfl
      unfold fhV at hx1 hx2
      dsimp only at hx1 hx2 ho32 hb32
      have Hc := hide hc
      clear hc
      by_cases k1 : eb = 0
      · subst k1
        have hb := hbl b rfl
        by_cases k2 : eo = 0
        · subst k2
          by_cases k3 : o < 8192
          · have k3' : (decide ((8192 : Int) ≤ (o : Int))) = false := by rw [decide_eq_false_iff_not]; omega
            rw [if_pos ⟨rfl, rfl, k3⟩] at hin
            have Hin := hide hin
            clear hin hbl
            go_enter Try.func7, Try.ntmps7
            go_wp2_with fail
            refine (hx1 _ hz1).mono ?_
            rintro e w1 ⟨rfl, rfl⟩
            go_wp2_with fail
            refine (hx2 _ hz2).mono ?_
            rintro e w2 ⟨rfl, rfl⟩
            go_wp2_with fail
            refine Cl.p (phAddrX_calls b o _ _ _ (by omega) (by omega) hb (by omega)) ?_
            go_wp2_with fail
            go_ret2
            exact ⟨by rw [Hin.out, show adr b o = b * 8192 + o from by unfold adr; omega]; rfl, by (repeat (first | exact Below.refl _ _ | assumption | refine Below.drew ?_ | refine Bl.alloc ?_ _ | refine below_drewN ?_ _ | refine Bl.chain ?_ (by assumption) (Nat.le_refl _)))⟩
          · have k3' : (8192 : Int) ≤ (o : Int) := by omega
            rw [if_neg (fun h => k3 h.2.2)] at hin
            have Hin := hide hin
            clear hin hbl
            go_enter Try.func7, Try.ntmps7
            go_wp2_with fail
            refine (hx1 _ hz1).mono ?_
            rintro e w1 ⟨rfl, rfl⟩
            go_wp2_with fail
            refine (hx2 _ hz2).mono ?_
            rintro e w2 ⟨rfl, rfl⟩
            go_wp2_with fail
            go_ret2
            exact ⟨by rw [Hin.out]; rfl, by (repeat (first | exact Below.refl _ _ | assumption | refine Below.drew ?_ | refine Bl.alloc ?_ _ | refine below_drewN ?_ _ | refine Bl.chain ?_ (by assumption) (Nat.le_refl _)))⟩
        · have k2' : ((eo : Int) != 0) = true := by rw [bne_iff_ne]; omega
          rw [if_neg (fun h => k2 h.2.1)] at hin
          have Hin := hide hin
          clear hin hbl
          go_enter Try.func7, Try.ntmps7
          go_wp2_with fail
          refine (hx1 _ hz1).mono ?_
          rintro e w1 ⟨rfl, rfl⟩
          go_wp2_with fail
          refine (hx2 _ hz2).mono ?_
          rintro e w2 ⟨rfl, rfl⟩
          go_wp2_with fail
          go_ret2
          exact ⟨by rw [Hin.out]; rfl, by (repeat (first | exact Below.refl _ _ | assumption | refine Below.drew ?_ | refine Bl.alloc ?_ _ | refine below_drewN ?_ _ | refine Bl.chain ?_ (by assumption) (Nat.le_refl _)))⟩
      · have k1' : ((eb : Int) != 0) = true := by rw [bne_iff_ne]; omega
        rw [if_neg (fun h => k1 h.1)] at hin
        have Hin := hide hin
        clear hin hbl
        go_enter Try.func7, Try.ntmps7
        go_wp2_with fail
        refine (hx1 _ hz1).mono ?_
        rintro e w1 ⟨rfl, rfl⟩
        go_wp2_with fail
        refine (hx2 _ hz2).mono ?_
        rintro e w2 ⟨rfl, rfl⟩
        go_wp2_with fail
        go_ret2
        exact ⟨by rw [Hin.out]; rfl, by (repeat (first | exact Below.refl _ _ | assumption | refine Below.drew ?_ | refine Bl.alloc ?_ _ | refine below_drewN ?_ _ | refine Bl.chain ?_ (by assumption) (Nat.le_refl _)))⟩
    · have hc' : ((s[2].toNat : Int) != 58) = true := by rw [bne_iff_ne]; omega
      have hr := hide (ofP_two s (s2_no s h2s hc))
      have Hc := hide hc
      clear hc
      go_enter Try.func7, Try.ntmps7
      go_wp2_with fail
      go_ret2
      exact ⟨by rw [hr.out]; rfl, by (repeat (first | exact Below.refl _ _ | assumption | refine Below.drew ?_ | refine Bl.alloc ?_ _ | refine below_drewN ?_ _ | refine Bl.chain ?_ (by assumption) (Nat.le_refl _)))⟩
  · have h7' : ((s.size : Int) != 7) = true := by rw [bne_iff_ne]; omega
    have hr := hide (ofP_len s h7)
    go_enter Try.func7, Try.ntmps7
    go_wp2_with fail
    go_ret2
    exact ⟨by rw [hr.out]; rfl, by (repeat (first | exact Below.refl _ _ | assumption | refine Below.drew ?_ | refine Bl.alloc ?_ _ | refine below_drewN ?_ _ | refine Bl.chain ?_ (by assumption) (Nat.le_refl _)))⟩

end Go.Proofs.Ytmlkmaeihkgdlaa
