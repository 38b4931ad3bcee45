/-
  The texts Fil of the proof of TopSums, as one file (they are merged by a program).
-/
import Derived.Test.YtplobngbjpgcgaaGreatDoorA16
import Derived.Test.YtplobngbjpgcgaaGreatDoorA33
section
/-
  Package bus: Fill.
-/
namespace Go.Proofs.YtplobngbjpgcgaaGreatDoor
set_option linter.unusedSimpArgs false
set_option linter.unusedVariables false
set_option maxRecDepth 10000
open Go.RowKit Pl
/-- Bytes behind k pieces, laid into others. -/
def fillF (F : Nat → Int) (At : Nat → Int) (Ln : Nat → Nat) (By : Nat → Nat → Int) : Nat → Nat → Int
  | 0 => F
  | k + 1 => layF (fillF F At Ln By k) (At k).toNat (Ln k) (By k)
set_option maxRecDepth 100000 in
set_option maxHeartbeats 4000000 in
theorem bsFill_calls (D : DevA) (A : BusA) (base nr k h : Nat) (now cyc left np : Int) (F : Nat → Int) (V : Value) (a : Option Addr) (n c : Nat) (At : Nat → Int) (O : Nat → Option Addr) (Ln Cp : Nat → Nat) (By : Nat → Nat → Int) (w : World) (hn : n ≤ 2) (hnr : nr ≤ 50000) (hft : ∀ i, i < n → Fits 8192 (At i) (Ln i))
    (hB : BusW w D A base now cyc left np nr k h F V) (hP : ∀ W, Only (fun j => j = A.g) w W → PieB W a n At O Ln Cp By W.heap.size) :
    Calls Tryz.prog 14 #[.pointer (some ⟨A.b, 0, none⟩), .slice a n c] w fun e w' => e = .returned (.agg (fltA (0, 0))) ∧ BusW w' D A base now cyc left np (nr + 8192 * n) k h (fillF F At Ln By n) V ∧ Only (fun j => j = A.g) w w' := by
  have hP0 := hP w (Only.refl _ _)
  have hz : Blk (w.alloc (.cells #[.int .i64 0, .int .i64 0] 48)) w.heap.size 48 #[.int .i64 0, .int .i64 0] := Blk.new _ _ _
  have hb : Below w.heap.size w (w.alloc (.cells #[.int .i64 0, .int .i64 0] 48)) := (Below.refl _ _).alloc (Nat.le_refl _) _
  have hB1 := hB.low hb
  have hO1 : Only (fun j => j = A.g) w (w.alloc (.cells #[.int .i64 0, .int .i64 0] 48)) := Only.of hb
  have hAg : A.g < w.heap.size := by have := hB.o; omega
  go_enter Tryz.func14, Tryz.ntmps14
  go_wp2_with fail
  obtain ⟨fv, hfv⟩ : ∃ x, w.heap.size = x := ⟨_, rfl⟩
  rw [hfv] at hz ⊢
  have hfg : fv ≠ A.g := by omega
  generalize w.alloc (.cells #[.int .i64 0, .int .i64 0] 48) = w1 at *
  clear hb hB hP0
  refine Cl.p (bsIs_calls w1 hB1) ?_
  go_wp2_with fail
  refine (rmOf_calls a n c At O Ln Cp By w1 (by omega) (fun i hi => by have := hft i hi; unfold Fits at this; omega) (fun i hi => by have := hft i hi; unfold Fits at this; omega) (hP w1 hO1)).mono ?_
  rintro e w2 ⟨hb2, ⟨i, hi, _, hnf, _⟩ | ⟨_, hm, gm, rfl, _, _, _⟩⟩
  · exact absurd (hft i hi) hnf
  have hB2 := hB1.low hb2
  have hO2 := hO1.trans (Only.of hb2)
  have hz2 := hz.below hb2 hz.lt
  have hy : Blk (w2.alloc (.cells #[.int .i64 0, .int .i64 0] 48)) w2.heap.size 48 #[.int .i64 0, .int .i64 0] := Blk.new _ _ _
  have hba : Below w2.heap.size w2 (w2.alloc (.cells #[.int .i64 0, .int .i64 0] 48)) := Bl.alloc (Below.refl _ _) _
  have hB3 := hB2.low hba
  have hO3 := hO2.trans (Only.of hba)
  have hz3 := hz2.below hba hz2.lt
  clear hB1 hO1 hz hb2 hB2 hO2 hz2 hba hfv
  go_wp2_with (refine wpList_store_row rfl 48 _ _ rfl w2.heap.size (fltA (0, 0)) rfl rfl 48 _ hy (by kernel_rfl) rfl (by kernel_rfl) ?_; rw [show fltA (0, 0) = #[.int .i64 0, .int .i64 0] from rfl, setRow_same hy])
  generalize w2.alloc (.cells #[.int .i64 0, .int .i64 0] 48) = w3 at *
  generalize w2.heap.size = gf at *
  have f0 : w3.cell? ⟨gf, 0, none⟩ = some (.int .i64 0) := Blk.cell hy 0
  clear hy
  go_wp2_with fail
  go_loopw [26] (fun i wr => ∃ j : Nat, j ≤ n ∧ i = .int .i64 (j : Int) ∧ BusW wr D A base now cyc left np (nr + 8192 * j) k h (fillF F At Ln By j) V ∧ Blk wr fv 48 #[.int .i64 0, .int .i64 0] ∧ Only (fun j => j = A.g) w wr) (fun i _ => n - (intOf i).toNat)
  case atStart => exact ⟨0, by omega, rfl, hB3, hz3, hO3⟩
  case round =>
    obtain ⟨j, hj, rfl, hBr, hZr, hOr⟩ := hrel
    clear hB3 hz3 hO3 f0
    by_cases hjn : j < n
    · have hjn' : (j : Int) < (n : Int) := by omega
      obtain ⟨b, off, rfl, hlt, x0, x1, _⟩ := hP wr hOr j hjn
      obtain ⟨p, hp⟩ : ∃ p : Nat, At j = (p : Int) := ⟨(At j).toNat, by have := hft j hjn; unfold Fits at this; omega⟩
      have hpn : p + Ln j ≤ 8192 := by have := hft j hjn; unfold Fits at this; omega
      have hstep : fillF F At Ln By (j + 1) = layF (fillF F At Ln By j) p (Ln j) (By j) := by
        show layF (fillF F At Ln By j) (At j).toNat (Ln j) (By j) = _
        rw [hp]; rfl
      have HS := hide hstep
      rw [hp] at x0
      have hN : ∀ W, Only (fun j => j = A.g) w W → NumsB W .u8 (O j) (Ln j) (By j) W.heap.size := fun W h => by
        obtain ⟨_, _, _, _, _, _, hh⟩ := hP W h j hjn
        exact hh
      obtain ⟨L, hLe⟩ : ∃ L, Ln j = L := ⟨_, rfl⟩
      rw [hLe] at x1 hN hpn
      have HLe := hide hLe
      obtain ⟨G, hG⟩ : ∃ G, fillF F At Ln By j = G := ⟨_, rfl⟩
      rw [hG] at hBr HS
      have hba : Below wr.heap.size wr (wr.alloc (.cells #[.int .i64 (p : Int), .slice (O j) L (Cp j)] 34)) := Bl.alloc (Below.refl _ _) _
      have hX3 : Blk (wr.alloc (.cells #[.int .i64 (p : Int), .slice (O j) L (Cp j)] 34)) wr.heap.size 34 #[.int .i64 (p : Int), .slice (O j) L (Cp j)] := Blk.new _ _ _
      have hB3 : BusW (wr.alloc (.cells #[.int .i64 (p : Int), .slice (O j) L (Cp j)] 34)) D A base now cyc left np (nr + 8192 * j + 0) k h (layF G p 0 (By j)) V := by
        rw [layF_zero]
        exact hBr.low hba
      have hZ3 := Blk.below hZr hba hZr.lt
      have hO3 := hOr.trans (Only.of hba)
      have hxg : wr.heap.size ≠ A.g := fun e => by have := hOr.size; omega
      clear hstep hp hLe hG hBr hZr hba
      go_wp2_with fail
      generalize wr.alloc (.cells #[.int .i64 (p : Int), .slice (O j) L (Cp j)] 34) = w4 at *
      generalize wr.heap.size = gx at *
      clear x0 x1 hOr
      go_loopw [33] (fun i wq => ∃ m : Nat, m ≤ L ∧ i = .int .i64 (m : Int) ∧ BusW wq D A base now cyc left np (nr + 8192 * j + m) k h (layF G p m (By j)) V ∧ Blk wq fv 48 #[.int .i64 0, .int .i64 0] ∧ Blk wq gx 34 #[.int .i64 (p : Int), .slice (O j) L (Cp j)] ∧ Only (fun j => j = A.g) w wq) (fun i _ => L - (intOf i).toNat)
      case atStart => exact ⟨0, by omega, rfl, hB3, hZ3, hX3, hO3⟩
      case round =>
        obtain ⟨m, hm, rfl, hBq, hZq, hXq, hOq⟩ := hrel
        clear hB3 hZ3 hX3 hO3
        by_cases hml : m < L
        · have hml' : (m : Int) < (L : Int) := by omega
          obtain ⟨bb, oo, hO, hbb, cb⟩ := hN wr hOq m hml
          have x0 : wr.cell? ⟨gx, 0, none⟩ = some (.int .i64 (p : Int)) := Blk.cell hXq 0
          have c2 : wr.cell? ⟨A.b, 2, none⟩ = some (.pointer (some ⟨A.rm, 0, none⟩)) := Blk.cell hBq.B 2
          have e1 : (p : Int) + (m : Int) ≤ 8191 := by omega
          have e2 : IntKind.u16.wrap ((p : Int) + (m : Int)) = (p : Int) + (m : Int) := by rw [IntKind.wrap_u16]; omega
          have e3 : IntKind.i64.wrap ((p : Int) + (m : Int)) = (p : Int) + (m : Int) := by rw [IntKind.wrap_i64]; omega
          have hpk : (p + m) % 8192 = p + m := by omega
          have hw := fun W (hR : RamB W A.rm A.g (nr + 8192 * j + m) (layF G p m (By j))) => rmWrite_calls A.rm A.g (nr + 8192 * j + m) (p + m) (By j m) (layF G p m (By j)) W (by omega) (by unfold maxLen; omega) hR
          rw [hpk, layF_updF, show ((p + m : Nat) : Int) = (p : Int) + (m : Int) from by omega] at hw
          clear hpk
          obtain ⟨bv, hbv⟩ : ∃ x, By j m = x := ⟨_, rfl⟩
          rw [hbv] at hw cb
          clear hbv
          go_wp2_with fail
          clear cb hO hbb
          refine wp_region_held_drew (S := fun W => W.cell? ⟨A.b, 2, none⟩ = some (.pointer (some ⟨A.rm, 0, none⟩)) ∧ W.cell? ⟨gx, 0, none⟩ = some (.int .i64 (p : Int))) (by kernel_rfl) ⟨(by first | exact c2.drew | exact c2 | exact Below.drew c2), (by first | exact x0.drew | exact x0 | exact Below.drew x0)⟩ (fun hS0 => ?_)
          have hBq_0 : BusW wr.drew D A base now cyc left np (nr + 8192 * j + m) k h (layF G p m (By j)) V := by first | exact hBq.drew | exact hBq
          have hZq_0 : Blk wr.drew fv 48 #[.int .i64 0, .int .i64 0] := by first | exact hZq.drew | exact hZq
          have hXq_0 : Blk wr.drew gx 34 #[.int .i64 (p : Int), .slice (O j) L (Cp j)] := by first | exact hXq.drew | exact hXq
          have hOq_0 : Only (fun j => j = A.g) w wr.drew := by first | exact hOq.drew | exact hOq
          clear c2 x0 hBq hZq hXq hOq
          change wpAnyH _ _ _ _ _ 11 #[false, false, false, false, false, false, false, false, false, false, false] _ _
          generalize wr.drew = v0 at *
          refine wpAnyH_take (i := 0) (v := ?_) rfl (by kernel_rfl) (by kernel_rfl) (by kernel_rfl) (fun _ _ _ h => h) (Or.inl ⟨by rfl, ?_⟩) hS0 ?_
          rotate_left
          · (intro w hSw; (try dsimp only at hSw); go_simp; try with_reducible rfl)
          simp only [List.getElem_toArray, List.getElem_cons_zero, List.getElem_cons_succ, Act.put, List.setIfInBounds_toArray, List.set_cons_zero, List.set_cons_succ]
          refine wpAnyH_take (i := 1) (v := ?_) rfl (by kernel_rfl) (by kernel_rfl) (by kernel_rfl) (fun _ _ _ h => h) (Or.inl ⟨by rfl, ?_⟩) hS0 ?_
          rotate_left
          · (intro w hSw; (try dsimp only at hSw); go_simp; try with_reducible rfl)
          simp only [List.getElem_toArray, List.getElem_cons_zero, List.getElem_cons_succ, Act.put, List.setIfInBounds_toArray, List.set_cons_zero, List.set_cons_succ]
          refine wpAnyH_take (i := 2) (v := ?_) rfl (by kernel_rfl) (by kernel_rfl) (by kernel_rfl) (fun _ _ _ h => h) (Or.inl ⟨by rfl, ?_⟩) hS0 ?_
          rotate_left
          · (intro w hSw; (try dsimp only at hSw); go_simp; try with_reducible rfl)
          simp only [List.getElem_toArray, List.getElem_cons_zero, List.getElem_cons_succ, Act.put, List.setIfInBounds_toArray, List.set_cons_zero, List.set_cons_succ]
          refine wpAnyH_take (i := 3) (v := ?_) rfl (by kernel_rfl) (by kernel_rfl) (by kernel_rfl) (fun _ _ _ h => h) (Or.inl ⟨by rfl, ?_⟩) hS0 ?_
          rotate_left
          · (intro w hSw; (try dsimp only at hSw); go_simp; try with_reducible rfl)
          simp only [List.getElem_toArray, List.getElem_cons_zero, List.getElem_cons_succ, Act.put, List.setIfInBounds_toArray, List.set_cons_zero, List.set_cons_succ]
          refine wpAnyH_take (i := 4) (v := ?_) rfl (by kernel_rfl) (by kernel_rfl) (by kernel_rfl) (fun _ _ _ h => h) (Or.inl ⟨by rfl, ?_⟩) hS0 ?_
          rotate_left
          · (intro w hSw; (try dsimp only at hSw); go_simp; try with_reducible rfl)
          simp only [List.getElem_toArray, List.getElem_cons_zero, List.getElem_cons_succ, Act.put, List.setIfInBounds_toArray, List.set_cons_zero, List.set_cons_succ]
          refine wpAnyH_take (i := 5) (v := ?_) rfl (by kernel_rfl) (by kernel_rfl) (by kernel_rfl) (fun _ _ _ h => h) (Or.inl ⟨by rfl, ?_⟩) hS0 ?_
          rotate_left
          · (intro w hSw; (try dsimp only at hSw); go_simp; try with_reducible rfl)
          simp only [List.getElem_toArray, List.getElem_cons_zero, List.getElem_cons_succ, Act.put, List.setIfInBounds_toArray, List.set_cons_zero, List.set_cons_succ]
          refine wpAnyH_take (i := 6) (v := ?_) rfl (by kernel_rfl) (by kernel_rfl) (by kernel_rfl) (fun _ _ _ h => h) (Or.inl ⟨by rfl, ?_⟩) hS0 ?_
          rotate_left
          · (intro w hSw; (try dsimp only at hSw); go_simp; try with_reducible rfl)
          simp only [List.getElem_toArray, List.getElem_cons_zero, List.getElem_cons_succ, Act.put, List.setIfInBounds_toArray, List.set_cons_zero, List.set_cons_succ]
          refine wpAnyH_take (i := 7) (v := ?_) rfl (by kernel_rfl) (by kernel_rfl) (by kernel_rfl) (fun _ _ _ h => h) (Or.inl ⟨by rfl, ?_⟩) hS0 ?_
          rotate_left
          · (intro w hSw; (try dsimp only at hSw); go_simp; try with_reducible rfl)
          simp only [List.getElem_toArray, List.getElem_cons_zero, List.getElem_cons_succ, Act.put, List.setIfInBounds_toArray, List.set_cons_zero, List.set_cons_succ]
          refine wpAnyH_take (i := 8) (v := ?_) rfl (by kernel_rfl) (by kernel_rfl) (by kernel_rfl) (fun _ _ _ h => h) (Or.inl ⟨by rfl, ?_⟩) hS0 ?_
          rotate_left
          · (intro w hSw; (try dsimp only at hSw); go_simp; try with_reducible rfl)
          simp only [List.getElem_toArray, List.getElem_cons_zero, List.getElem_cons_succ, Act.put, List.setIfInBounds_toArray, List.set_cons_zero, List.set_cons_succ]
          refine wpAnyH_take (i := 9) (v := ?_) rfl (by kernel_rfl) (by kernel_rfl) (by kernel_rfl) (fun _ _ _ h => h) (Or.inl ⟨by rfl, ?_⟩) hS0 ?_
          rotate_left
          · (intro w hSw; (try dsimp only at hSw); go_simp; try with_reducible rfl)
          simp only [List.getElem_toArray, List.getElem_cons_zero, List.getElem_cons_succ, Act.put, List.setIfInBounds_toArray, List.set_cons_zero, List.set_cons_succ]
          refine wpAnyH_ready (rs := [10]) (by kernel_rfl) (by simp) ?_
          refine AllReadyH.cons rfl (fun K hK => ?_) AllReadyH.nil
          go_simp
          with_reducible refine (hw _ (BusW.R hBq_0)).mono ?_
          rintro e v1 ⟨rfl, q1, q2⟩
          have hNB := BusW.setR hBq_0 q1 q2
          have hNO := Only.trans hOq_0 q2
          have hNZ := Blk.only hZq_0 q2 hfg
          have hNX := Blk.only hXq_0 q2 hxg
          (try go_simp)
          refine hK.out _ _ ⟨Blk.cell (BusW.B hNB) 2, Blk.cell hNX 0⟩ (fun hS1 => ?_)
          clear hK K hS0
          simp only [List.getElem_toArray, List.getElem_cons_zero, List.getElem_cons_succ, Act.put, List.setIfInBounds_toArray, List.set_cons_zero, List.set_cons_succ]
          refine wpAnyH_done (by kernel_rfl) ?_ _
          have c2 := hS1.1
          have x0 := hS1.2
          clear hS1
          clear c2 x0 e2 e3
          go_wp2_with fail
          go_roundw
          case rel => exact ⟨m + 1, by omega, by go_num, hNB, hNZ, hNX, hNO⟩
          case measure => simp [intOf]; omega
        · obtain rfl : m = L := by omega
          have hB6 : BusW wr D A base now cyc left np (nr + 8192 * (j + 1)) k h (fillF F At Ln By (j + 1)) V := by
            rw [HS.out, HLe.out]
            exact ⟨hBq.B, hBq.C, ⟨hBq.R.1, hBq.R.2.mono (by omega)⟩, hBq.Dv, hBq.T, hBq.o⟩
          clear hBq hXq
          go_wp2_with fail
          go_roundw
          case rel => exact ⟨j + 1, by omega, by go_num, hB6, hZq, hOq⟩
          case measure => simp [intOf]; omega
    · obtain rfl : j = n := by omega
      go_wp2_with (refine wpList_store_row rfl 48 _ _ rfl fv (fltA (0, 0)) rfl rfl 48 _ hZr (by kernel_rfl) rfl (by kernel_rfl) ?_; rw [show fltA (0, 0) = #[.int .i64 0, .int .i64 0] from rfl, setRow_same hZr])
      exact bodyPost_ret (results_cell_row rfl _ _ fv 48 #[.int .i64 0, .int .i64 0] (0, 0) _ rfl hZr Tryz.underlying48 rfl (by kernel_rfl)) rfl ⟨rfl, hBr, hOr⟩
end Go.Proofs.YtplobngbjpgcgaaGreatDoor
end
