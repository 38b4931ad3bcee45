/-
  The walks of the laws of layer 8.
-/
import Derived.Test.YtmolpamgpfifhaaL08d
import Derived.Test.YtmolpamgpfifhaaOpenS
import Derived.StillTailTactics
namespace Go.Proofs.Ytmolpamgpfifhaa
open Go.RowKit Pl

theorem beq_nat (a : Nat) : ((a : Int) == (a : Int)) = true := by simp

theorem latchReads_calls (h m b : Nat) (w : World) (hh : h < 256) (hm : m < 256) (hb : b < 256) :
    Calls Try.prog 3 #[.int .u8 (h : Int), .int .u8 (m : Int), .int .u8 (b : Int)] w fun e w' => e = .returned (.bool true) ∧ Below w.heap.size w w' := by
  have hml := mix_lt (h := h) (m := m) hb
  have hmn := mix_none hml hb
  go_enter Try.func3, Try.ntmps3
  go_wp2_with fail
  refine (live08_calls _).mono ?_
  rintro e w1 ⟨rfl, hb1⟩
  go_wp2_with fail
  refine (latNew_calls h _).mono ?_
  rintro e w' ⟨rfl, rfl⟩
  go_wp2_with fail
  refine (refRead_calls h m b _ hh hm hb).mono ?_
  rintro e w2 ⟨rfl, hb2⟩
  have hcL : w2.cell? ⟨w1.heap.size, 0, none⟩ = some (.int .u8 (h : Int)) := (hb2.cell (p := ⟨w1.heap.size, 0, none⟩) (by simp)).trans (by simp [go_sem])
  have hfL : w2.frozen? ⟨w1.heap.size, 0, none⟩ = false := (hb2.frozen (p := ⟨w1.heap.size, 0, none⟩) (by simp)).trans (by simp [go_sem])
  have hlt : w1.heap.size < w2.heap.size := Nat.lt_of_lt_of_le (by simp) hb2.size
  go_wp2_with fail
  refine (latRead_calls _ h m b _ hh hm hb hcL hfL).mono ?_
  rintro e w' ⟨rfl, rfl⟩
  go_wp2_with fail
  refine (latValue_calls _ (mix h m b) _ (by simp [go_sem, hcL])).mono ?_
  rintro e w' ⟨rfl, rfl⟩
  go_wp2_with fail
  refine (latRead_calls _ (mix h m b) 0 b _ hml (by omega) hb (by simp [go_sem, hcL]) (by simp [go_sem, hcL, hfL])).mono ?_
  rintro e w' ⟨rfl, rfl⟩
  rw [hmn]
  go_wp2_with fail
  go_ret
  refine ⟨rfl, ?_⟩
  exact ((((hb1.alloc hb1.size _).trans (hb2.mono (by have := hb1.size; simp; omega))).setCell hb1.size _).setCell hb1.size _)

theorem outs_get (h : Nat) (M D : Nat → Nat) (n k : Nat) (hk : k < n) : (outs h M D n).getD k 0 = ((stt h M D (k + 1) : Nat) : Int) := by
  unfold outs
  simp [List.getD, hk]

theorem latchRows_calls (h : Nat) (a : Option Addr) (len cap : Nat) (M D : Nat → Nat) (w : World) (hh : h < 256) (hs : StepsAt w a len M D) (hlm : len ≤ maxLen) :
    Calls Try.prog 4 #[.int .u8 (h : Int), .slice a len cap] w fun e w' => e = .returned (.bool true) ∧ Below w.heap.size w w' := by
  unfold maxLen at hlm
  by_cases hbig : 300 < len
  · go_enter Try.func4, Try.ntmps4
    go_wp2_with fail
    refine (live08_calls _).mono ?_
    rintro e w1 ⟨rfl, hb1⟩
    go_wp2_with fail
    go_ret
    exact ⟨rfl, hb1⟩
  · go_enter Try.func4, Try.ntmps4
    go_wp2_with fail
    refine (live08_calls _).mono ?_
    rintro e w1 ⟨rfl, hb1⟩
    have hs1 := hs.below hb1 (Nat.le_refl _)
    go_wp2_with fail
    refine (latRow_calls h a len cap M D w1 hh hs1 (by omega)).mono ?_
    rintro e w2 ⟨b, c, rfl, hnum, hb2⟩
    have hs2 := hs1.below hb2 (Nat.le_refl _)
    have hsz1 := hb1.size
    have hsz2 := hb2.size
    go_wp2_with fail
    go_loopw [7, 8] (fun x i wr => ∃ k : Nat, k ≤ len ∧ x = .int .u8 ((stt h M D k : Nat) : Int) ∧ i = .int .i64 (k : Int) ∧ Below w2.heap.size w2 wr) (fun _ i _ => len - (intOf i).toNat)
    case atStart => exact ⟨0, Nat.zero_le _, rfl, rfl, Below.refl _ _⟩
    case round =>
      obtain ⟨k, hk, rfl, rfl, hbel⟩ := hrel
      by_cases hkl : k < len
      · have hkl' : (k : Int) < (len : Int) := by omega
        obtain ⟨sb, so, rfl, _, hcM, hcD, hM, hD⟩ := hs2.below hbel (Nat.le_refl _) k hkl
        obtain ⟨lb, lo, rfl, _, hcl⟩ := hnum.below hbel (Nat.le_refl _) k hkl
        have hst : stt h M D k < 256 := stt_lt h M D hh k fun i hi => by obtain ⟨_, _, _, _, _, _, _, h8⟩ := hs i (by omega); exact h8
        go_wp2_with fail
        go_still_tail 11, (by kernel_rfl)
        change wpList _ _ _ _ _ wr.drew
        go_wp2_with fail
        refine (refRead_calls (stt h M D k) (M k) (D k) _ hst hM hD).mono ?_
        rintro e w3 ⟨rfl, hb3⟩
        have hcl3 := (hb3.cell (p := ⟨lb, lo + k, none⟩) (cell_lt hcl)).trans hcl
        rw [outs_get h M D len k hkl] at hcl3
        have hnx : mix (stt h M D k) (M k) (D k) = stt h M D (k + 1) := rfl
        rw [hnx]
        go_wp2_with fail
        go_roundw
        case rel => exact ⟨k + 1, by omega, rfl, by go_num, hbel.drew.trans (hb3.mono hbel.size)⟩
        case measure => simp [intOf]; omega
      · obtain rfl : k = len := by omega
        go_wp2_with fail
        go_ret
        exact ⟨by simp, hb1.trans ((hb2.mono hsz1).trans (hbel.mono (by omega)))⟩

/-- The bit that the last step made, of the first n. -/
def bitAt (h : Nat) (M D : Nat → Nat) (i : Nat) : Nat → Bool
  | 0 => tb h (i : Int)
  | n + 1 => if tb (M n) (i : Int) then tb (D n) (i : Int) else bitAt h M D i n
theorem stt_bit (h : Nat) (M D : Nat → Nat) (i : Nat) (hi : i < 8) (n : Nat) (hM : ∀ j, j < n → M j < 256) : tb (stt h M D n) (i : Int) = bitAt h M D i n := by
  induction n with
  | zero => rfl
  | succ n ih =>
    rw [bitAt, ← ih (fun j hj => hM j (by omega)), tb_nat _ i (by omega), tb_nat _ i (by omega), tb_nat _ i (by omega), tb_nat _ i (by omega), stt, mix_bit (hM n (by omega)) i hi]

theorem latchLast_calls (h : Nat) (a : Option Addr) (len cap : Nat) (M D : Nat → Nat) (w : World) (hh : h < 256) (hs : StepsAt w a len M D) (hlm : len ≤ maxLen) :
    Calls Try.prog 5 #[.int .u8 (h : Int), .slice a len cap] w fun e w' => e = .returned (.bool true) ∧ Below w.heap.size w w' := by
  unfold maxLen at hlm
  by_cases hbig : 300 < len
  · go_enter Try.func5, Try.ntmps5
    go_wp2_with fail
    refine (live08_calls _).mono ?_
    rintro e w1 ⟨rfl, hb1⟩
    go_wp2_with fail
    go_ret
    exact ⟨rfl, hb1⟩
  · go_enter Try.func5, Try.ntmps5
    go_wp2_with fail
    refine (live08_calls _).mono ?_
    rintro e w1 ⟨rfl, hb1⟩
    have hs1 := hs.below hb1 (Nat.le_refl _)
    go_wp2_with fail
    refine (latRow_calls h a len cap M D w1 hh hs1 (by omega)).mono ?_
    rintro e w2 ⟨b, c, rfl, hnum, hb2⟩
    have hs2 := hs1.below hb2 (Nat.le_refl _)
    go_wp2_with fail
    refine (latLast_calls a len cap M D w2 hs2 (by omega)).mono ?_
    rintro e w3 ⟨rfl, hb3⟩
    have hs3 := hs2.below hb3 (Nat.le_refl _)
    have hsz1 := hb1.size
    have hsz2 := hb2.size
    have hsz3 := hb3.size
    have hz : Blk (w3.alloc (.cells #[.int .i64 0, .int .i64 0, .int .i64 0, .int .i64 0, .int .i64 0, .int .i64 0, .int .i64 0, .int .i64 0] 36)) w3.heap.size 36 _ := Blk.new w3 _ _
    go_wp2_with (refine wpList_store_row rfl 36 _ _ rfl w3.heap.size (arr 8 (lastK M len 8)) rfl rfl 36 _ hz (by kernel_rfl) rfl (by kernel_rfl) ?_)
    have hblk := hz.setRow (arr 8 (lastK M len 8))
    have hbel4 := below_setRow ((Below.refl w3.heap.size w3).alloc (Nat.le_refl _) (.cells #[.int .i64 0, .int .i64 0, .int .i64 0, .int .i64 0, .int .i64 0, .int .i64 0, .int .i64 0, .int .i64 0] 36)) (Nat.le_refl _) (arr 8 (lastK M len 8))
    clear hz
    generalize (w3.alloc _).setRow _ _ = w4 at hblk hbel4 ⊢
    have hs4 := hs3.below hbel4 (Nat.le_refl _)
    have hsz4 := hbel4.size
    have hst : stt h M D len < 256 := stt_lt h M D hh len fun i hi => by obtain ⟨_, _, _, _, _, _, _, h8⟩ := hs i (by omega); exact h8
    go_loopw [8] (fun i wr => ∃ k : Nat, k ≤ 8 ∧ i = .int .i64 (k : Int) ∧ Below w4.heap.size w4 wr) (fun i _ => 8 - (intOf i).toNat)
    case atStart => exact ⟨0, Nat.zero_le _, rfl, Below.refl _ _⟩
    case round =>
      obtain ⟨k, hk, rfl, hbel⟩ := hrel
      by_cases hk8 : k < 8
      · have hk8' : (k : Int) < 8 := by omega
        obtain ⟨wo, rfl⟩ : ∃ wo : World, wo = wr := ⟨_, rfl⟩
        go_wp2_with fail
        refine (refBit_calls h k _ hh).mono ?_
        rintro e w' ⟨rfl, rfl⟩
        go_wp2_with fail
        go_loopw [9, 10, 11] (fun x l n wr => ∃ m : Nat, m ≤ len ∧ x = .bool (bitAt h M D k m) ∧ l = .int .i64 (lst M k m) ∧ n = .int .i64 (m : Int) ∧ Below w4.heap.size w4 wr) (fun _ _ n _ => len - (intOf n).toNat)
        case atStart => exact ⟨0, Nat.zero_le _, rfl, rfl, rfl, hbel⟩
        case round =>
          obtain ⟨m, hm, rfl, rfl, rfl, hbel'⟩ := hrel
          by_cases hml : m < len
          · have hml' : (m : Int) < (len : Int) := by omega
            obtain ⟨sb, so, rfl, _, hcM, hcD, hM, hD⟩ := hs4.below hbel' (Nat.le_refl _) m hml
            cases hbb : tb (M m) k
            · have Hb := hide hbb
              go_wp2_with (go_at_call 13; refine (refBit_calls _ _ _ (by assumption)).mono ?_; rintro e w' ⟨rfl, rfl⟩)
              go_roundw
              case rel => exact ⟨m + 1, by omega, by rw [bitAt, Hb.out]; rfl, by rw [lst, Hb.out]; rfl, by go_num, hbel'⟩
              case measure => simp [intOf]; omega
            · have Hb := hide hbb
              go_wp2_with (go_at_call 13; refine (refBit_calls _ _ _ (by assumption)).mono ?_; rintro e w' ⟨rfl, rfl⟩)
              go_roundw
              case rel => exact ⟨m + 1, by omega, by rw [bitAt, Hb.out]; rfl, by rw [lst, Hb.out]; rfl, by go_num, hbel'⟩
              case measure => simp [intOf]; omega
          · obtain rfl : m = len := by omega
            have hbit := stt_bit h M D k hk8 m (fun i hi => by obtain ⟨_, _, _, _, _, _, h7, _⟩ := hs i (by omega); exact h7)
            have hcm : wr.cell? ⟨w3.heap.size, k, none⟩ = some (.int .i64 (lst M k m)) := by
              rw [hbel'.cell (p := ⟨w3.heap.size, k, none⟩) hblk.lt, hblk.cell k, arr_get 8 _ k hk8]
              unfold lastK
              rw [if_pos hk8]
            go_wp2_with (go_at_call 13; refine (refBit_calls _ _ _ (by assumption)).mono ?_; rintro e w' ⟨rfl, rfl⟩)
            go_roundw
            case rel => exact ⟨k + 1, by omega, by go_num, hbel'⟩
            case measure => simp [intOf]; omega
      · obtain rfl : k = 8 := by omega
        go_wp2_with fail
        go_ret
        exact ⟨rfl, hb1.trans ((hb2.mono hsz1).trans ((hb3.mono (by omega)).trans ((hbel4.mono (by omega)).trans (hbel.mono (by omega)))))⟩

section
open Go.ChangeShapes Go.WideShapes Go.ChangeAt
variable {H : Type} {enc : TypeId × Value → H} {W : World} {base : Nat} {v0 v1 v2 : Value} {d0 d1 d2 : DataW H} {p0 p1 p2 : List MemPlace}

theorem walk_LatchReads (_hsh : W.ShapedOpen Try.prog) (_hsz : (DataW.weightsEach Try.prog [5, 5, 5] [d0, d1, d2]).all (· ≤ reachBytes) = true)
    (hv0 : Value.okWide Try.prog W .any base 5 v0) (hd0 : DataW.Trod enc Try.prog W 0 (fun _ => true) true 5 v0 d0 p0) (hv1 : Value.okWide Try.prog W .any base 5 v1) (hd1 : DataW.Trod enc Try.prog W 0 (fun _ => true) true 5 v1 d1 p1) (hv2 : Value.okWide Try.prog W .any base 5 v2) (hd2 : DataW.Trod enc Try.prog W 0 (fun _ => true) true 5 v2 d2 p2) :
    Calls Try.prog 3 #[v0, v1, v2] W fun e W' => e = .returned (.bool true) ∧ Below W.heap.size W W' := by
  obtain ⟨x0, rfl, h0⟩ := open_u8 Try.underlying5 hv0 hd0
  obtain ⟨x1, rfl, h1⟩ := open_u8 Try.underlying5 hv1 hd1
  obtain ⟨x2, rfl, h2⟩ := open_u8 Try.underlying5 hv2 hd2
  exact latchReads_calls x0 x1 x2 W h0 h1 h2

theorem open_steps (hv : Value.okWide Try.prog W .any base 29 v1) (hd : DataW.Trod enc Try.prog W 0 (fun _ => true) true 29 v1 d1 p1) :
    ∃ (a : Option Addr) (len cap : Nat) (M D : Nat → Nat), v1 = .slice a len cap ∧ StepsAt W a len M D ∧ len ≤ maxLen := by
  obtain ⟨a, len, cap, C, rfl, hr, hl, hm, hf⟩ := open_rows Try.underlying29 Try.underlying34 (by kernel_rfl) (by kernel_rfl) (by decide) hv hd
  refine ⟨a, len, cap, fun i => (cellNat (C i 0)), fun i => (cellNat (C i 1)), rfl, fun i hi => ?_, Nat.le_trans hl hm⟩
  obtain ⟨b, off, rfl, hlt, hc⟩ := hr i hi
  obtain ⟨_, _, h0⟩ := hf i hi 0 _ rfl
  obtain ⟨_, _, h1⟩ := hf i hi 1 _ rfl
  obtain ⟨x, hx, hxl⟩ := field_u8 Try.underlying5 h0
  obtain ⟨y, hy, hyl⟩ := field_u8 Try.underlying5 h1
  have c0 := hc 0 (by decide)
  have c1 := hc 1 (by decide)
  rw [hx] at c0
  rw [hy] at c1
  refine ⟨b, off, rfl, hlt, ?_, ?_, ?_, ?_⟩
  · simp only [hx, cellNat_int]; exact c0
  · simp only [hy, cellNat_int]; rw [Nat.add_assoc]; exact c1
  · simp only [hx, cellNat_int]; exact hxl
  · simp only [hy, cellNat_int]; exact hyl

theorem walk_LatchRows (_hsh : W.ShapedOpen Try.prog) (_hsz : (DataW.weightsEach Try.prog [5, 29] [d0, d1]).all (· ≤ reachBytes) = true)
    (hv0 : Value.okWide Try.prog W .any base 5 v0) (hd0 : DataW.Trod enc Try.prog W 0 (fun _ => true) true 5 v0 d0 p0) (hv1 : Value.okWide Try.prog W .any base 29 v1) (hd1 : DataW.Trod enc Try.prog W 0 (fun _ => true) true 29 v1 d1 p1) :
    Calls Try.prog 4 #[v0, v1] W fun e W' => e = .returned (.bool true) ∧ Below W.heap.size W W' := by
  obtain ⟨x0, rfl, h0⟩ := open_u8 Try.underlying5 hv0 hd0
  obtain ⟨a, len, cap, M, D, rfl, hs, hl⟩ := open_steps hv1 hd1
  exact latchRows_calls x0 a len cap M D W h0 hs hl

theorem walk_LatchLast (_hsh : W.ShapedOpen Try.prog) (_hsz : (DataW.weightsEach Try.prog [5, 29] [d0, d1]).all (· ≤ reachBytes) = true)
    (hv0 : Value.okWide Try.prog W .any base 5 v0) (hd0 : DataW.Trod enc Try.prog W 0 (fun _ => true) true 5 v0 d0 p0) (hv1 : Value.okWide Try.prog W .any base 29 v1) (hd1 : DataW.Trod enc Try.prog W 0 (fun _ => true) true 29 v1 d1 p1) :
    Calls Try.prog 5 #[v0, v1] W fun e W' => e = .returned (.bool true) ∧ Below W.heap.size W W' := by
  obtain ⟨x0, rfl, h0⟩ := open_u8 Try.underlying5 hv0 hd0
  obtain ⟨a, len, cap, M, D, rfl, hs, hl⟩ := open_steps hv1 hd1
  exact latchLast_calls x0 a len cap M D W h0 hs hl
end
end Go.Proofs.Ytmolpamgpfifhaa
