/-
  gannetlaw31: BurstMoves.
-/
import Derived.Test.YticdlgbpbfcmaaaBst7
import Derived.Test.YticdlgbpbfcmaaaMvap
import Derived.Test.YticdlgbpbfcmaaaSame
import Derived.Test.YticdlgbpbfcmaaaOpenA
namespace Go.Proofs.Yticdlgbpbfcmaaa
open Go.RowKit

def mem64 (A : Nat → Nat) : Array Value := arr 64 fun i => .int .u8 (A i : Int)
theorem mem64_get (A : Nat → Nat) (i : Nat) (h : i < 64) : (mem64 A)[i]? = some (.int .u8 (A i : Int)) := arr_get 64 _ i h
theorem mem64_set (A : Nat → Nat) (i v : Nat) (h : i < 64) : (mem64 A).setIfInBounds i (.int .u8 (v : Int)) = mem64 (updn A i v) := by
  unfold mem64
  rw [arr_set 64 _ i _ h]
  refine arr_congr fun j hj => ?_
  unfold updv updn
  split <;> rfl
theorem mem64_one (A : Nat → Nat) : (mem64 A).all (·.oneCell') = true := by
  rw [Array.all_eq_true]
  intro i hi
  simp [mem64, arr, Value.oneCell', Value.cells]
theorem bsCyc_calls (l : Nat) (w : World) (hl : l < 65536) : Calls Try.prog 15 #[.int .u16 (l : Int)] w fun e w' => e = .returned (.int .i64 ((6 * cnt l : Nat) : Int)) ∧ w = w' := by
  have hb := cnt_b l hl
  go_enter Try.func15, Try.ntmps15
  (go_wp2_with fail; refine Cl.p (mvCount_calls l _ hl) ?_)
  go_wp2_with fail
  go_ret
  exact ⟨ret_int (by omega), rfl⟩
set_option maxRecDepth 100000 in
set_option maxHeartbeats 8000000 in
theorem burstMoves_calls (k0 l0 l1 l2 : Nat) (A : Nat → Nat) (w : World) (hk0 : k0 < 256) (h0 : l0 < 65536) (h1 : l1 < 65536) (h2 : l2 < 65536) :
    Calls Try.prog 4 #[.int .u8 (k0 : Int), .agg #[.int .u16 (l0 : Int), .int .u16 (l1 : Int), .int .u16 (l2 : Int)], .agg (mem64 A)] w fun e w' => e = .returned (.bool true) ∧ Below w.heap.size w w' := by
  obtain ⟨k, hk, hke⟩ : ∃ k : Nat, k < 5 ∧ (k0 : Int) % 5 = (k : Int) := ⟨k0 % 5, Nat.mod_lt _ (by omega), by omega⟩
  have hke2 : (k0 : Int).tmod 5 = (k : Int) := by rw [Int.tmod_eq_emod_of_nonneg (by omega)]; exact hke
  obtain ⟨L, hL1, hL2, hLe⟩ : ∃ L : Nat, 1 ≤ L ∧ L ≤ 200 ∧ (l2 : Int) % 200 + 1 = (L : Int) := ⟨l2 % 200 + 1, by omega, by omega, by omega⟩
  have hLe2 : (l2 : Int).tmod 200 + 1 = (L : Int) := by rw [Int.tmod_eq_emod_of_nonneg (by omega)]; exact hLe
  have hcL : cnt L = L := if_neg (by omega)
  have hA0 : Blk ((w.alloc (.cells #[.int .u16 (l0 : Int), .int .u16 (l1 : Int), .int .u16 (l2 : Int)] 23)).alloc (.cells (mem64 A) 37)) w.heap.size 23 #[.int .u16 (l0 : Int), .int .u16 (l1 : Int), .int .u16 (l2 : Int)] := (Blk.new _ _ _).alloc _
  have hM0 : Blk ((w.alloc (.cells #[.int .u16 (l0 : Int), .int .u16 (l1 : Int), .int .u16 (l2 : Int)] 23)).alloc (.cells (mem64 A) 37)) (w.heap.size + 1) 37 (mem64 A) := Blk.newAt (by simp)
  have hbA : Below w.heap.size w ((w.alloc (.cells #[.int .u16 (l0 : Int), .int .u16 (l1 : Int), .int .u16 (l2 : Int)] 23)).alloc (.cells (mem64 A) 37)) := Bl.alloc (Bl.alloc (Below.refl _ _) _) _
  go_enter Try.func4, Try.ntmps4
  (go_wp2_with fail; refine Cl.m (live31_calls _) ?_; intro w1 hb1)
  have hA1 := hA0.below hb1 hA0.lt
  have hM1 := hM0.below hb1 hM0.lt
  have hb01 : Below w.heap.size w w1 := hbA.trans (hb1.mono hbA.size)
  have c0 : w1.cell? ⟨w.heap.size, 0, none⟩ = some (.int .u16 (l0 : Int)) := hA1.cell 0
  have c1 : w1.cell? ⟨w.heap.size, 1, none⟩ = some (.int .u16 (l1 : Int)) := hA1.cell 1
  have c2 : w1.cell? ⟨w.heap.size, 2, none⟩ = some (.int .u16 (l2 : Int)) := hA1.cell 2
  have f2 : w1.frozen? ⟨w.heap.size, 2, none⟩ = false := hA1.frozen 2
  go_wp2_with fail
  have hA2 : Blk (w1.setCell ⟨w.heap.size, 2, none⟩ (.int .u16 (L : Int))) w.heap.size 23 #[.int .u16 (l0 : Int), .int .u16 (l1 : Int), .int .u16 (L : Int)] := hA1.set_ 2 _
  have hM2 := hM1.far (p := ⟨w.heap.size, 2, none⟩) (by simp) (.int .u16 (L : Int))
  have hb02 : Below w.heap.size w (w1.setCell ⟨w.heap.size, 2, none⟩ (.int .u16 (L : Int))) := hb01.setCell (p := ⟨w.heap.size, 2, none⟩) (Nat.le_refl _) _
  have hz2 : (w1.setCell ⟨w.heap.size, 2, none⟩ (.int .u16 (L : Int))).heap.size = w1.heap.size := by simp [World.setCell]
  clear c0 c1 c2 f2
  generalize w1.setCell ⟨w.heap.size, 2, none⟩ (.int .u16 (L : Int)) = w2 at *
  refine (bsNew_calls k l0 l1 L w2 hk h0 h1 (by omega)).mono ?_
  rintro e w3 ⟨g, rfl, hB3, hg3, hb3⟩
  have hA3 := hA2.below hb3 hA2.lt
  have hM3 := hM2.below hb3 hM2.lt
  have hb03 : Below w.heap.size w w3 := hb02.trans (hb3.mono hb02.size)
  have hgM : w.heap.size + 1 < g := Nat.lt_of_lt_of_le hM2.lt hg3
  have hgl : g < w3.heap.size := hB3.lt
  clear hA0 hM0 hbA hb1 hA1 hM1 hb01 hA2 hM2 hb02 hz2 hb3 hg3
  go_wp2_with (first
    | (refine wpList_load_row rfl 37 _ rfl (w.heap.size + 1) rfl _ (mem64 A) (0, 0) _ hM3 Try.underlying37 rfl (by kernel_rfl) ?_)
    | (refine wpList_store_row rfl 37 _ _ rfl w3.heap.size (mem64 A) rfl rfl 37 _ (heap_alloc_new w3 _) (by kernel_rfl) rfl (mem64_one A) ?_))
  rw [setRow_new]
  have hA4 := hA3.alloc (.cells (mem64 A) 37)
  have hM4 := hM3.alloc (.cells (mem64 A) 37)
  have hB4 : BB (w3.alloc (.cells (mem64 A) 37)) g k l0 l1 (cnt L) 0 0 0 := Blk.alloc hB3 _
  have hW4 : Blk (w3.alloc (.cells (mem64 A) 37)) w3.heap.size 37 (mem64 (mvA k l0 l1 64 A 0)) := Blk.new _ _ _
  have hb04 : Below w.heap.size w (w3.alloc (.cells (mem64 A) 37)) := hb03.alloc hb03.size _
  generalize hh : w3.heap.size = h at *
  generalize w3.alloc (.cells (mem64 A) 37) = w4 at *
  clear hA3 hM3 hB3 hb03
  have hcb := cnt_b L (by omega)
  go_loopw [10] (fun c wr => ∃ m q ph dt : Nat, c = .int .i64 (m : Int) ∧ m = 6 * q + ph ∧ Inv31 L q ph ∧ BB wr g k l0 l1 (cnt L) q ph dt ∧ Blk wr h 37 (mem64 (mvA k l0 l1 64 A (if ph = 5 then q + 1 else q))) ∧ (2 ≤ ph → dt = mvA k l0 l1 64 A q (wyF k l0 q % 64)) ∧ Only (fun b => b = g ∨ b = h) w4 wr) (fun c _ => 6 * L - (intOf c).toNat)
  case atStart => exact ⟨0, 0, 0, 0, rfl, rfl, Inv31.zero L (by omega), hB4, hW4, fun e => by omega, Only.refl _ _⟩
  case round =>
    obtain ⟨m, q, ph, dt, rfl, hm, hi, hB, hW, hdt, hor⟩ := hrel
    by_cases hq : q < cnt L
    · have hph : ph < 6 := by unfold Inv31 at hi; omega
      have hm2 : (m : Int) < 1300 := by omega
      have hD := bsDone_calls g k l0 l1 (cnt L) q ph dt wr hcb.2 (by omega) hB
      rw [decide_eq_false (by omega)] at hD
      have hp : ph = 0 ∨ ph = 1 ∨ ph = 2 ∨ ph = 3 ∨ ph = 4 ∨ ph = 5 := by omega
      clear hi
      rcases hp with rfl | rfl | rfl | rfl | rfl | rfl
      · have hW : Blk wr h 37 (mem64 (mvA k l0 l1 64 A q)) := hW
        (go_wp2_with fail; refine Cl.m hD ?_; intro w5 hb5)
        have hB5 : BB w5 g k l0 l1 (cnt L) q 0 dt := Blk.below hB hb5 hB.lt
        have hW5 := hW.below hb5 hW.lt
        go_wp2_with fail
        refine Cl.m (bsNext0_calls g k l0 l1 (cnt L) q dt _ hcb.2 hq hk h0 h1 hB5) ?_
        intro w6 hb6
        have hB6 : BB w6 g k l0 l1 (cnt L) q 0 dt := Blk.below hB5 hb6 (Blk.lt hB5)
        have hW6 := hW5.below hb6 hW5.lt
        have ho6 : Only (fun b => b = g ∨ b = h) w4 w6 := (hor.trans (Only.of hb5)).trans (Only.of hb6)
        go_wp2_with fail
        refine (bsStep_calls g k l0 l1 (cnt L) q 0 dt 0 _ hcb.2 hq (by omega) hB6).mono ?_
        rintro e w7 ⟨⟨_, rfl⟩, hB7, ho7⟩
        have hB7 : BB w7 g k l0 l1 (cnt L) q 1 dt := hB7
        have hW7 := hW6.only ho7 (by omega)
        go_wp2_with fail
        go_roundw
        case rel => exact ⟨m + 1, q, 1, dt, by go_num, by omega, (by unfold Inv31; omega), hB7, hW7, fun e => by omega, ho6.trans (ho7.mono fun _ _ e => Or.inl e)⟩
        case measure => simp [intOf]; omega
      · have hW : Blk wr h 37 (mem64 (mvA k l0 l1 64 A q)) := hW
        (go_wp2_with fail; refine Cl.m hD ?_; intro w5 hb5)
        have hB5 : BB w5 g k l0 l1 (cnt L) q 1 dt := Blk.below hB hb5 hB.lt
        have hW5 := hW.below hb5 hW.lt
        go_wp2_with fail
        refine Cl.m (bsNext1_calls g k l0 l1 (cnt L) q dt _ hcb.2 hq hk h0 h1 hB5) ?_
        intro w6 hb6
        have hB6 : BB w6 g k l0 l1 (cnt L) q 1 dt := Blk.below hB5 hb6 (Blk.lt hB5)
        have hW6 := hW5.below hb6 hW5.lt
        have ho6 : Only (fun b => b = g ∨ b = h) w4 w6 := (hor.trans (Only.of hb5)).trans (Only.of hb6)
        have hs : mvA k l0 l1 64 A q (wyF k l0 q % 64) = mvA k l0 l1 64 A q (wyF k l0 q % 64) := rfl
        have hF := wyF_lt k l0 q
        generalize hFe : wyF k l0 q = F at *
        have pF : F % 64 < 64 := Nat.mod_lt _ (by omega)
        have e1 : (F : Int) % 64 = ((F % 64 : Nat) : Int) := by omega
        have e3 : IntKind.i64.wrap (F : Int) = (F : Int) := by rw [IntKind.wrap_i64]; omega
        have e2 : (F : Int).tmod 64 = ((F % 64 : Nat) : Int) := by rw [Int.tmod_eq_emod_of_nonneg (by omega)]; omega
        have x0 : w6.cell? ⟨h, F % 64, none⟩ = some (.int .u8 (mvA k l0 l1 64 A q (F % 64) : Nat)) := (hW6.cell _).trans (mem64_get _ _ pF)
        generalize hpe : F % 64 = p at *
        generalize hv : mvA k l0 l1 64 A q p = v at *
        have HF := hide hFe
        have Hp := hide hpe
        have Hv := hide hv
        clear hFe hpe hv hs
        have pp : (p : Int) < 64 := by omega
        go_wp2_with fail
        refine (bsStep_calls g k l0 l1 (cnt L) q 1 dt v _ hcb.2 hq (by omega) hB6).mono ?_
        rintro e w7 ⟨⟨_, rfl⟩, hB7, ho7⟩
        have hB7 : BB w7 g k l0 l1 (cnt L) q 2 v := hB7
        have hW7 := hW6.only ho7 (by omega)
        go_wp2_with fail
        go_roundw
        case rel => exact ⟨m + 1, q, 2, v, by go_num, by omega, Or.inl ⟨hq, by omega⟩, hB7, hW7, fun _ => by rw [HF.out, Hp.out, Hv.out], ho6.trans (ho7.mono fun _ _ e => Or.inl e)⟩
        case measure => simp [intOf]; omega
      · have hW : Blk wr h 37 (mem64 (mvA k l0 l1 64 A q)) := hW
        (go_wp2_with fail; refine Cl.m hD ?_; intro w5 hb5)
        have hB5 : BB w5 g k l0 l1 (cnt L) q 2 dt := Blk.below hB hb5 hB.lt
        have hW5 := hW.below hb5 hW.lt
        go_wp2_with fail
        refine Cl.m (bsNext2_calls g k l0 l1 (cnt L) q dt _ hcb.2 hq hk h0 h1 hB5) ?_
        intro w6 hb6
        have hB6 : BB w6 g k l0 l1 (cnt L) q 2 dt := Blk.below hB5 hb6 (Blk.lt hB5)
        have hW6 := hW5.below hb6 hW5.lt
        have ho6 : Only (fun b => b = g ∨ b = h) w4 w6 := (hor.trans (Only.of hb5)).trans (Only.of hb6)
        go_wp2_with fail
        refine (bsStep_calls g k l0 l1 (cnt L) q 2 dt 0 _ hcb.2 hq (by omega) hB6).mono ?_
        rintro e w7 ⟨⟨_, rfl⟩, hB7, ho7⟩
        have hB7 : BB w7 g k l0 l1 (cnt L) q 3 dt := hB7
        have hW7 := hW6.only ho7 (by omega)
        go_wp2_with fail
        go_roundw
        case rel => exact ⟨m + 1, q, 3, dt, by go_num, by omega, (by unfold Inv31; omega), hB7, hW7, fun _ => hdt (by omega), ho6.trans (ho7.mono fun _ _ e => Or.inl e)⟩
        case measure => simp [intOf]; omega
      · have hW : Blk wr h 37 (mem64 (mvA k l0 l1 64 A q)) := hW
        (go_wp2_with fail; refine Cl.m hD ?_; intro w5 hb5)
        have hB5 : BB w5 g k l0 l1 (cnt L) q 3 dt := Blk.below hB hb5 hB.lt
        have hW5 := hW.below hb5 hW.lt
        go_wp2_with fail
        refine Cl.m (bsNext3_calls g k l0 l1 (cnt L) q dt _ hcb.2 hq hk h0 h1 hB5) ?_
        intro w6 hb6
        have hB6 : BB w6 g k l0 l1 (cnt L) q 3 dt := Blk.below hB5 hb6 (Blk.lt hB5)
        have hW6 := hW5.below hb6 hW5.lt
        have ho6 : Only (fun b => b = g ∨ b = h) w4 w6 := (hor.trans (Only.of hb5)).trans (Only.of hb6)
        go_wp2_with fail
        refine (bsStep_calls g k l0 l1 (cnt L) q 3 dt 0 _ hcb.2 hq (by omega) hB6).mono ?_
        rintro e w7 ⟨⟨_, rfl⟩, hB7, ho7⟩
        have hB7 : BB w7 g k l0 l1 (cnt L) q 4 dt := hB7
        have hW7 := hW6.only ho7 (by omega)
        go_wp2_with fail
        go_roundw
        case rel => exact ⟨m + 1, q, 4, dt, by go_num, by omega, (by unfold Inv31; omega), hB7, hW7, fun _ => hdt (by omega), ho6.trans (ho7.mono fun _ _ e => Or.inl e)⟩
        case measure => simp [intOf]; omega
      · have hW : Blk wr h 37 (mem64 (mvA k l0 l1 64 A q)) := hW
        (go_wp2_with fail; refine Cl.m hD ?_; intro w5 hb5)
        have hB5 : BB w5 g k l0 l1 (cnt L) q 4 dt := Blk.below hB hb5 hB.lt
        have hW5 := hW.below hb5 hW.lt
        go_wp2_with fail
        refine Cl.m (bsNext4_calls g k l0 l1 (cnt L) q dt _ hcb.2 hq hk h0 h1 hB5) ?_
        intro w6 hb6
        have hB6 : BB w6 g k l0 l1 (cnt L) q 4 dt := Blk.below hB5 hb6 (Blk.lt hB5)
        have hW6 := hW5.below hb6 hW5.lt
        have ho6 : Only (fun b => b = g ∨ b = h) w4 w6 := (hor.trans (Only.of hb5)).trans (Only.of hb6)
        replace hdt := hdt (by omega)
        have hs : mvA k l0 l1 64 A (q + 1) = updn (mvA k l0 l1 64 A q) (wyT k l1 q % 64) (mvA k l0 l1 64 A q (wyF k l0 q % 64)) := rfl
        rw [← hdt] at hs
        have Hd := hide hdt
        clear hdt
        have hF := wyT_lt k l1 q h1
        generalize hFe : wyT k l1 q = F at *
        have pF : F % 64 < 64 := Nat.mod_lt _ (by omega)
        have e1 : (F : Int) % 64 = ((F % 64 : Nat) : Int) := by omega
        have e3 : IntKind.i64.wrap (F : Int) = (F : Int) := by rw [IntKind.wrap_i64]; omega
        have e2 : (F : Int).tmod 64 = ((F % 64 : Nat) : Int) := by rw [Int.tmod_eq_emod_of_nonneg (by omega)]; omega
        generalize F % 64 = p at *
        clear hFe
        have pp : (p : Int) < 64 := by omega
        go_wp2_with fail
        refine Cl.p (bsData_calls g k l0 l1 (cnt L) q 4 dt _ hB6) ?_
        have x0 : w6.cell? ⟨h, p, none⟩ = some (.int .u8 (mvA k l0 l1 64 A q p : Nat)) := (hW6.cell _).trans (mem64_get _ _ pF)
        have x1 : w6.frozen? ⟨h, p, none⟩ = false := hW6.frozen p
        have hB7 : BB (w6.setCell ⟨h, p, none⟩ (.int .u8 (dt : Int))) g k l0 l1 (cnt L) q 4 dt := Blk.far hB6 (by simp; omega) _
        have hW7 : Blk (w6.setCell ⟨h, p, none⟩ (.int .u8 (dt : Int))) h 37 (mem64 (mvA k l0 l1 64 A (q + 1))) := by
          rw [hs, ← mem64_set _ _ _ pF]
          exact hW6.set_ p _
        have ho7 : Only (fun b => b = g ∨ b = h) w4 (w6.setCell ⟨h, p, none⟩ (.int .u8 (dt : Int))) := ho6.setCell ⟨h, p, none⟩ (Or.inr rfl) _
        go_wp2_with fail
        refine (bsStep_calls g k l0 l1 (cnt L) q 4 dt 0 _ hcb.2 hq (by omega) hB7).mono ?_
        rintro e w8 ⟨⟨_, rfl⟩, hB8, ho8⟩
        have hB8 : BB w8 g k l0 l1 (cnt L) q 5 dt := hB8
        have hW8 := hW7.only ho8 (by omega)
        go_wp2_with fail
        go_roundw
        case rel => exact ⟨m + 1, q, 5, dt, by go_num, by omega, Or.inl ⟨hq, by omega⟩, hB8, hW8, fun _ => Hd.out, ho7.trans (ho8.mono fun _ _ e => Or.inl e)⟩
        case measure => simp [intOf]; omega
      · have hW : Blk wr h 37 (mem64 (mvA k l0 l1 64 A (q + 1))) := hW
        (go_wp2_with fail; refine Cl.m hD ?_; intro w5 hb5)
        have hB5 : BB w5 g k l0 l1 (cnt L) q 5 dt := Blk.below hB hb5 hB.lt
        have hW5 := hW.below hb5 hW.lt
        go_wp2_with fail
        refine Cl.m (bsNext5_calls g k l0 l1 (cnt L) q dt _ hcb.2 hq hk h0 h1 hB5) ?_
        intro w6 hb6
        have hB6 : BB w6 g k l0 l1 (cnt L) q 5 dt := Blk.below hB5 hb6 (Blk.lt hB5)
        have hW6 := hW5.below hb6 hW5.lt
        have ho6 : Only (fun b => b = g ∨ b = h) w4 w6 := (hor.trans (Only.of hb5)).trans (Only.of hb6)
        go_wp2_with fail
        refine (bsStep_calls g k l0 l1 (cnt L) q 5 dt 0 _ hcb.2 hq (by omega) hB6).mono ?_
        rintro e w7 ⟨⟨_, rfl⟩, hB7, ho7⟩
        have hB7 : BB w7 g k l0 l1 (cnt L) (q + 1) 0 dt := hB7
        have hW7 := hW6.only ho7 (by omega)
        go_wp2_with fail
        go_roundw
        case rel => exact ⟨m + 1, (q + 1), 0, dt, by go_num, by omega, (by unfold Inv31; omega), hB7, hW7, fun e => by omega, ho6.trans (ho7.mono fun _ _ e => Or.inl e)⟩
        case measure => simp [intOf]; omega
    · obtain ⟨hqe, hpe⟩ : q = cnt L ∧ ph = 0 := by unfold Inv31 at hi; omega
      subst hpe
      have hD := bsDone_calls g k l0 l1 (cnt L) q 0 dt wr hcb.2 (by omega) hB
      rw [decide_eq_true hqe] at hD
      (go_wp2_with fail; refine Cl.m hD ?_; intro w5 hb5)
      have hW : Blk wr h 37 (mem64 (mvA k l0 l1 64 A q)) := hW
      rw [hqe, hcL] at hW
      have hW5 := hW.below hb5 hW.lt
      have hAr := hA4.only hor (by omega)
      have hMr := hM4.only hor (by omega)
      have hA5 := hAr.below hb5 hAr.lt
      have hM5 := hMr.below hb5 hMr.lt
      have hb4r : Below w.heap.size w wr := hb04.trans (hor.below hb04.size (fun b e => by omega))
      have hb05 : Below w.heap.size w w5 := hb4r.trans (hb5.mono hb4r.size)
      have hm6 : m = 6 * L := by rw [hqe, hcL] at hm; omega
      clear hD hB hor hb5 hb4r hb04 hAr hMr hW hdt hi hA4 hM4 hB4 hW4
      have y0 : w5.drew.cell? ⟨w.heap.size, 0, none⟩ = some (.int .u16 (l0 : Int)) := hA5.cell 0
      have y1 : w5.drew.cell? ⟨w.heap.size, 1, none⟩ = some (.int .u16 (l1 : Int)) := hA5.cell 1
      have y2 : w5.drew.cell? ⟨w.heap.size, 2, none⟩ = some (.int .u16 (L : Int)) := hA5.cell 2
      have hN : NumsAt w5.drew .u8 (some ⟨w.heap.size + 1, 0, none⟩) 64 (fun i => (A i : Int)) := fun i hi => ⟨_, 0, rfl, hM5.lt, by rw [Nat.zero_add]; exact (hM5.cell i).trans (mem64_get A i hi)⟩
      have hAp := mvApply_calls k l0 l1 L (some ⟨w.heap.size + 1, 0, none⟩) 64 64 A w5.drew hk h0 h1 (by omega) (by omega) (by omega) hN
      rw [hcL] at hAp
      go_wp2_with fail
      go_region_held3 (fun w' => w'.cell? ⟨w.heap.size, 0, none⟩ = some (.int .u16 (l0 : Int)) ∧ w'.cell? ⟨w.heap.size, 1, none⟩ = some (.int .u16 (l1 : Int)) ∧ w'.cell? ⟨w.heap.size, 2, none⟩ = some (.int .u16 (L : Int))) (first | exact ⟨z0, z1, z2⟩ | exact ⟨y0, y1, y2⟩)
        (first | (go_at_call 14; refine hAp.mono ?_; rintro e w8 ⟨g8, c8, rfl, hR8, hg8, hb8⟩; have hA8 := hA5.drew.below hb8 hA5.lt; have z0 : w8.cell? ⟨w.heap.size, 0, none⟩ = some (.int .u16 (l0 : Int)) := hA8.cell 0; have z1 : w8.cell? ⟨w.heap.size, 1, none⟩ = some (.int .u16 (l1 : Int)) := hA8.cell 1; have z2 : w8.cell? ⟨w.heap.size, 2, none⟩ = some (.int .u16 (L : Int)) := hA8.cell 2))
      all_goals
        have hW8 := hW5.drew.below hb8 hW5.lt
        have hb08 : Below w.heap.size w w8 := (Below.drew hb05).trans (hb8.mono hb05.size)
        have hc6 : ((m : Int) == ((6 * L : Nat) : Int)) = true := by rw [beq_iff_eq]; omega
        have hc7 : ((m : Int) == 6 * (L : Int)) = true := by rw [beq_iff_eq]; omega
        have hCy := bsCyc_calls L w8 (by omega)
        rw [hcL] at hCy
        have hNW : NumsAt w8 .u8 (some ⟨h, 0, none⟩) 64 (fun i => (mvA k l0 l1 64 A L i : Int)) := fun i hi => ⟨_, 0, rfl, hW8.lt, by rw [Nat.zero_add]; exact (hW8.cell i).trans (mem64_get _ i hi)⟩
        clear hAp hN hm hm6 hqe hW5 hA5
        (go_wp2_with fail; refine Cl.p hCy ?_)
        go_wp2_with fail
        refine Cl.m (refSame_calls _ _ 64 64 _ _ _ _ _ hNW hR8.nums (by decide) (by decide) rfl (fun i _ => rfl)) ?_
        intro w9 hb9
        (go_wp2_with fail; go_ret; exact ⟨rfl, by (repeat (first | exact Below.refl _ _ | assumption | refine Below.drew ?_ | refine Bl.alloc ?_ _ | refine below_drewN ?_ _ | refine Bl.chain ?_ (by assumption) (Nat.le_refl _)))⟩)
end Go.Proofs.Yticdlgbpbfcmaaa
