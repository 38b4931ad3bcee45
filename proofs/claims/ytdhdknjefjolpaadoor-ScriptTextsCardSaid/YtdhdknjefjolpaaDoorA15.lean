/-
  The texts Sc39 of the proofs about scripts, as one file (they are merged by a program).
-/
import Derived.Test.YtdhdknjefjolpaaDoorA14
section
/-
  gannetref33.Text: plain text; the walk to the feeds.
-/
namespace Go.Proofs.YtdhdknjefjolpaaDoor
set_option linter.unusedSimpArgs false
set_option linter.unusedVariables false
set_option maxRecDepth 10000
open Go.RowKit Go.Shelf Pl
theorem q8192 (n : Nat) (hn : n ≤ 20000) : ∃ q, n / 8192 = q ∧ q ≤ 9223372036854775807 ∧ Int.tdiv (n : Int) 8192 = (q : Int) ∧ (n : Int) / 8192 = (q : Int) ∧ wrap64 (q : Int) = (q : Int) :=
  ⟨n / 8192, rfl, by omega, by rw [Int.tdiv_eq_ediv_of_nonneg (by omega)]; omega, by omega, by unfold wrap64; omega⟩
theorem nms_cell (x : Nat) (h : x < 4) : #[Value.string ⟨#[114, 101, 115, 101, 116]⟩, .string ⟨#[110, 109, 105]⟩, .string ⟨#[105, 114, 113, 49]⟩, .string ⟨#[105, 114, 113, 50]⟩][x]? = some (.string ⟨(nmF x).toArray⟩) := by
  match x, h with
  | 0, _ => rfl
  | 1, _ => rfl
  | 2, _ => rfl
  | 3, _ => rfl
theorem nmF_len (x : Nat) : (nmF x).length ≤ 5 := by
  unfold nmF
  split <;> decide
set_option maxRecDepth 100000 in
set_option maxHeartbeats 16000000 in
theorem rtext_calls (o o0 o1 o2 oe : Option Addr) (n c l0 c0 l1 c1 l2 c2 ne ce bud : Nat) (F F0 F1 F2 : Nat → Nat) (St : Nat → Nat) (Ln : Nat → Nat) (Up : Nat → Bool) (w : World) (hn : n ≤ 20000) (h0 : l0 ≤ 300) (h1 : l1 ≤ 300) (h2 : l2 ≤ 300) (hne : ne ≤ 200) (hb63 : bud ≤ 9223372036854775807)
    (hF : ∀ i, F i < 256) (hF0 : ∀ i, F0 i < 256) (hF1 : ∀ i, F1 i < 256) (hF2 : ∀ i, F2 i < 256) (f : NumsAt w .u8 o n (fun i => (F i : Int))) (f0 : NumsAt w .u8 o0 l0 (fun i => (F0 i : Int))) (f1 : NumsAt w .u8 o1 l1 (fun i => (F1 i : Int))) (f2 : NumsAt w .u8 o2 l2 (fun i => (F2 i : Int)))
    (hE : EdgB w oe ne (fun i => (St i : Int)) Ln Up w.heap.size) (hS : ∀ i, i < ne → St i ≤ 9223372036854775807) (hLn : ∀ i, i < ne → Ln i < 4) :
    Calls Tryd.prog 15 #[.agg #[Value.slice o n c, Value.slice o0 l0 c0, Value.slice o1 l1 c1, Value.slice o2 l2 c2, Value.slice oe ne ce, Value.int .i64 (bud : Int)]] w fun e w' => e = .returned (.string ⟨(txT n F l0 l1 l2 F0 F1 F2 ne St Ln Up bud).toArray⟩) ∧ Below w.heap.size w w' := by
  have hX : Blk (w.alloc (.cells #[Value.slice o n c, Value.slice o0 l0 c0, Value.slice o1 l1 c1, Value.slice o2 l2 c2, Value.slice oe ne ce, Value.int .i64 (bud : Int)] 27)) w.heap.size 27 #[Value.slice o n c, Value.slice o0 l0 c0, Value.slice o1 l1 c1, Value.slice o2 l2 c2, Value.slice oe ne ce, Value.int .i64 (bud : Int)] := Blk.new _ _ _
  have hb1 : Below w.heap.size w (w.alloc (.cells #[Value.slice o n c, Value.slice o0 l0 c0, Value.slice o1 l1 c1, Value.slice o2 l2 c2, Value.slice oe ne ce, Value.int .i64 (bud : Int)] 27)) := Bl.alloc (Below.refl _ _) _
  have k0 : (w.alloc (.cells #[Value.slice o n c, Value.slice o0 l0 c0, Value.slice o1 l1 c1, Value.slice o2 l2 c2, Value.slice oe ne ce, Value.int .i64 (bud : Int)] 27)).cell? ⟨w.heap.size, 0, none⟩ = some (.slice o n c) := hX.cell 0
  have HX := hide hX
  have HA : Hid (NumsAt w .u8 o n (fun i => (F i : Int)) ∧ NumsAt w .u8 o0 l0 (fun i => (F0 i : Int)) ∧ NumsAt w .u8 o1 l1 (fun i => (F1 i : Int)) ∧ NumsAt w .u8 o2 l2 (fun i => (F2 i : Int)) ∧ EdgB w oe ne (fun i => (St i : Int)) Ln Up w.heap.size) := ⟨f, f0, f1, f2, hE⟩
  have HB := hide hb1
  obtain ⟨q, hq, hq63, e3, e1, hwq⟩ := q8192 n hn
  have HTA : Hid (txA n = [112, 97, 103, 101, 115, 32] ++ decL q ++ [10]) := by unfold Hid txA wPages; rw [hq]; simp
  have hd := fun W => rdec_calls q W hq63
  clear hq
  have hdl2 := decL_len q
  have hcat : ∀ x y : List UInt8, (⟨x.toArray⟩ : ByteArray) ++ ⟨y.toArray⟩ = ⟨(x ++ y).toArray⟩ := cat_bytes
  have hcatP : ∀ y : List UInt8, (⟨#[112, 97, 103, 101, 115, 32]⟩ : ByteArray) ++ ⟨y.toArray⟩ = ⟨([112, 97, 103, 101, 115, 32] ++ y).toArray⟩ := fun y => cat_bytes [112, 97, 103, 101, 115, 32] y
  have hcat32 : ∀ x : List UInt8, (⟨x.toArray⟩ : ByteArray) ++ ⟨#[32]⟩ = ⟨(x ++ [32]).toArray⟩ := fun x => cat_bytes x [32]
  have hcat10 : ∀ x : List UInt8, (⟨x.toArray⟩ : ByteArray) ++ ⟨#[10]⟩ = ⟨(x ++ [10]).toArray⟩ := fun x => cat_bytes x [10]
  have hsz : ∀ x : List UInt8, (⟨x.toArray⟩ : ByteArray).size = x.length := strS
  clear hX hb1 f f0 f1 f2 hE
  generalize decL q = DQ at *
  go_enter Tryd.func15, Tryd.ntmps15
  go_wp2_with fail
  refine (hd _).mono ?_
  clear hd
  rintro e w2 ⟨rfl, hb2⟩
  have hX2 : Blk w2 w.heap.size 27 #[Value.slice o n c, Value.slice o0 l0 c0, Value.slice o1 l1 c1, Value.slice o2 l2 c2, Value.slice oe ne ce, Value.int .i64 (bud : Int)] := HX.out.below hb2 HX.out.lt
  have k02 : w2.cell? ⟨w.heap.size, 0, none⟩ = some (.slice o n c) := hX2.cell 0
  have hb02 : Below w.heap.size w w2 := HB.out.trans (hb2.mono HB.out.size)
  have f2' : NumsAt w2 .u8 o n (fun i => (F i : Int)) := HA.out.1.below hb02 (Nat.le_refl _)
  have hpc := rcPieces_calls n c o (fun i => (F i : Int)) w2 (by omega) f2'
  have HX2 := hide hX2
  have HB2 := hide hb02
  clear hX2 hb02 f2' hb2 k0
  go_wp2_with fail
  refine hpc.mono ?_
  clear hpc
  rintro e w3 ⟨v, rfl, hPL, hb3⟩
  obtain ⟨pa, pc, pO, pCp, rfl, hPB⟩ := hPL.pieces
  have hX3 : Blk w3 w.heap.size 27 #[Value.slice o n c, Value.slice o0 l0 c0, Value.slice o1 l1 c1, Value.slice o2 l2 c2, Value.slice oe ne ce, Value.int .i64 (bud : Int)] := HX2.out.below hb3 HX2.out.lt
  have hb03 : Below w.heap.size w w3 := HB2.out.trans (hb3.mono HB2.out.size)
  have HX3 := hide hX3
  have HB3 := hide hb03
  have HPB := hide hPB
  have hpl := runs_len (F := fun i => (F i : Int)) n
  have HRB : Hid (∀ k, k < (runsP (fun i => (F i : Int)) n).length → pA (runsP (fun i => (F i : Int)) n) k + pN (runsP (fun i => (F i : Int)) n) k ≤ n ∧ 0 < pN (runsP (fun i => (F i : Int)) n) k) := fun k hk => pN_pos (fun i => (F i : Int)) n k hk
  have HPS : Hid (∀ k, k < (runsP (fun i => (F i : Int)) n).length → pcT F ((runsP (fun i => (F i : Int)) n).take (k + 1)) = pcT F ((runsP (fun i => (F i : Int)) n).take k) ++ rwK wRom (pA (runsP (fun i => (F i : Int)) n) k) (pN (runsP (fun i => (F i : Int)) n) k) (fun j => F (pA (runsP (fun i => (F i : Int)) n) k + j)) (pN (runsP (fun i => (F i : Int)) n) k)) := fun k hk => pcT_snoc F _ k hk
  clear hPL hb3 k02 hX3 hb03 hPB
  generalize hPQ : runsP (fun i => (F i : Int)) n = PS at *
  have HPQ := hide hPQ
  clear hPQ
  go_wp2_with fail
  go_loopw [3, 5] (fun v3 v5 wr => ∃ k : Nat, k ≤ PS.length ∧ v5 = .int .i64 (k : Int) ∧ v3 = .string ⟨(txA n ++ pcT F (PS.take k)).toArray⟩ ∧ (pcT F (PS.take k)).length ≤ k * 300000 ∧ Hid (Below w3.heap.size w3 wr)) (fun _ v5 _ => PS.length - (intOf v5).toNat)
  case atStart =>
    refine ⟨0, by omega, rfl, ?_, by simp [pcT], Below.refl _ _⟩
    rw [HTA.out]
    simp [pcT]
  case round =>
    obtain ⟨k, hk, rfl, rfl, hln, hbr⟩ := hrel
    have hta : (txA n).length ≤ 26 := by rw [HTA.out, List.length_append, List.length_append]; simp; omega
    rcases Nat.lt_or_ge k PS.length with hlt | hge
    · obtain ⟨pb, poff, rfl, hpb, z00, z10, zN⟩ := HPB.out k hlt
      have hbw := hbr.out
      have z0 : wr.cell? ⟨pb, poff + k * 2, none⟩ = some (.int .i64 (pA PS k : Int)) := (hbw.cell (cell_lt z00)).trans z00
      have z1 : wr.cell? ⟨pb, poff + k * 2 + 1, none⟩ = some (.slice (pO k) (pN PS k) (pCp k)) := (hbw.cell (cell_lt z10)).trans z10
      have hnm : NumsAt wr .u8 (pO k) (pN PS k) (fun i => ((F (pA PS k + i) : Nat) : Int)) := zN.nums.below hbw (Nat.le_refl _)
      have hrb := HRB.out k hlt
      have hps := HPS.out k hlt
      have hrl := rwK_len wRom (pA PS k) (pN PS k) (fun j => F (pA PS k + j)) (by decide) (pN PS k)
      have hrw := fun W (h : NumsAt W .u8 (pO k) (pN PS k) (fun i => ((F (pA PS k + i) : Nat) : Int))) => rrow_calls wRom (pA PS k) (pN PS k) (pCp k) (pO k) (fun j => F (pA PS k + j)) W (by decide) (by omega) (by omega) (fun _ => hF _) h
      have hsl : (txA n ++ pcT F (PS.take k)).length ≤ 26 + k * 300000 := by rw [List.length_append]; omega
      have HSX : Hid (txA n ++ pcT F (PS.take (k + 1)) = (txA n ++ pcT F (PS.take k)) ++ rwK wRom (pA PS k) (pN PS k) (fun j => F (pA PS k + j)) (pN PS k)) := by unfold Hid; rw [hps, List.append_assoc]
      have hlk : Hid ((pcT F (PS.take (k + 1))).length ≤ (k + 1) * 300000) := by unfold Hid; rw [hps, List.length_append]; omega
      have hkk : (k : Int) < (PS.length : Int) := by omega
      have hrl2 : (rwK wRom (pA PS k) (pN PS k) (fun j => F (pA PS k + j)) (pN PS k)).length ≤ 300000 := by omega
      have hk20 : k ≤ 20000 := by omega
      generalize txA n ++ pcT F (PS.take k) = SX at *
      generalize rwK wRom (pA PS k) (pN PS k) (fun j => F (pA PS k + j)) (pN PS k) = RX at *
      clear hps hrl hln hbr z00 z10 zN hrb hta e3 e1 hwq
      go_wp2_with fail
      refine wp_region_held_drew (S := fun W => W.cell? ⟨pb, poff + k * 2, none⟩ = some (.int .i64 (pA PS k : Int)) ∧ W.cell? ⟨pb, poff + k * 2 + 1, none⟩ = some (.slice (pO k) (pN PS k) (pCp k)) ∧ NumsAt W .u8 (pO k) (pN PS k) (fun i => ((F (pA PS k + i) : Nat) : Int)) ∧ Below w3.heap.size w3 W) (by kernel_rfl) ⟨(by first | exact z0.drew | exact z0 | exact Below.drew z0), (by first | exact z1.drew | exact z1 | exact Below.drew z1), (by first | exact hnm.drew | exact hnm | exact Below.drew hnm), (by first | exact hbw.drew | exact hbw | exact Below.drew hbw)⟩ (fun hS0 => ?_)
      clear z0 z1 hnm hbw
      change wpAnyH _ _ _ _ _ 14 #[false, false, false, false, false, false, false, false, false, false, false, false, false, false] _ _
      generalize wr.drew = v0 at *
      refine wpAnyH_take (i := 0) (v := ?_) rfl (by kernel_rfl) (by kernel_rfl) (by kernel_rfl) (fun _ _ _ h => h) (Or.inl ⟨by rfl, ?_⟩) hS0 ?_
      rotate_left
      · (intro w hSw; (try dsimp only at hSw); go_simp; try with_reducible rfl)
      simp only [List.getElem_toArray, List.getElem_cons_zero, List.getElem_cons_succ, Act.put, List.setIfInBounds_toArray, List.set_cons_zero, List.set_cons_succ]
      refine wpAnyH_take (i := 1) (v := ?_) rfl (by kernel_rfl) (by kernel_rfl) (by kernel_rfl) (fun _ _ _ h => h) (Or.inl ⟨by rfl, ?_⟩) hS0 ?_
      rotate_left
      · (intro w hSw; (try dsimp only at hSw); go_simp; try with_reducible rfl)
      simp only [List.getElem_toArray, List.getElem_cons_zero, List.getElem_cons_succ, Act.put, List.setIfInBounds_toArray, List.set_cons_zero, List.set_cons_succ]
      refine wpAnyH_take (i := 2) (v := ?_) rfl (by kernel_rfl) (by kernel_rfl) (by kernel_rfl) (fun _ _ _ h => h) (Or.inl ⟨by rfl, ?_⟩) hS0 ?_
      rotate_left
      · (intro w hSw; (try dsimp only at hSw); go_simp; try with_reducible rfl)
      simp only [List.getElem_toArray, List.getElem_cons_zero, List.getElem_cons_succ, Act.put, List.setIfInBounds_toArray, List.set_cons_zero, List.set_cons_succ]
      refine wpAnyH_take (i := 3) (v := ?_) rfl (by kernel_rfl) (by kernel_rfl) (by kernel_rfl) (fun _ _ _ h => h) (Or.inl ⟨by rfl, ?_⟩) hS0 ?_
      rotate_left
      · (intro w hSw; (try dsimp only at hSw); go_simp; try with_reducible rfl)
      simp only [List.getElem_toArray, List.getElem_cons_zero, List.getElem_cons_succ, Act.put, List.setIfInBounds_toArray, List.set_cons_zero, List.set_cons_succ]
      refine wpAnyH_take (i := 4) (v := ?_) rfl (by kernel_rfl) (by kernel_rfl) (by kernel_rfl) (fun _ _ _ h => h) (Or.inl ⟨by rfl, ?_⟩) hS0 ?_
      rotate_left
      · (intro w hSw; (try dsimp only at hSw); go_simp; try with_reducible rfl)
      simp only [List.getElem_toArray, List.getElem_cons_zero, List.getElem_cons_succ, Act.put, List.setIfInBounds_toArray, List.set_cons_zero, List.set_cons_succ]
      refine wpAnyH_take (i := 5) (v := ?_) rfl (by kernel_rfl) (by kernel_rfl) (by kernel_rfl) (fun _ _ _ h => h) (Or.inl ⟨by rfl, ?_⟩) hS0 ?_
      rotate_left
      · (intro w hSw; (try dsimp only at hSw); go_simp; try with_reducible rfl)
      simp only [List.getElem_toArray, List.getElem_cons_zero, List.getElem_cons_succ, Act.put, List.setIfInBounds_toArray, List.set_cons_zero, List.set_cons_succ]
      refine wpAnyH_take (i := 6) (v := ?_) rfl (by kernel_rfl) (by kernel_rfl) (by kernel_rfl) (fun _ _ _ h => h) (Or.inl ⟨by rfl, ?_⟩) hS0 ?_
      rotate_left
      · (intro w hSw; (try dsimp only at hSw); go_simp; try with_reducible rfl)
      simp only [List.getElem_toArray, List.getElem_cons_zero, List.getElem_cons_succ, Act.put, List.setIfInBounds_toArray, List.set_cons_zero, List.set_cons_succ]
      refine wpAnyH_take (i := 7) (v := ?_) rfl (by kernel_rfl) (by kernel_rfl) (by kernel_rfl) (fun _ _ _ h => h) (Or.inl ⟨by rfl, ?_⟩) hS0 ?_
      rotate_left
      · (intro w hSw; (try dsimp only at hSw); go_simp; try with_reducible rfl)
      simp only [List.getElem_toArray, List.getElem_cons_zero, List.getElem_cons_succ, Act.put, List.setIfInBounds_toArray, List.set_cons_zero, List.set_cons_succ]
      refine wpAnyH_take (i := 8) (v := ?_) rfl (by kernel_rfl) (by kernel_rfl) (by kernel_rfl) (fun _ _ _ h => h) (Or.inl ⟨by rfl, ?_⟩) hS0 ?_
      rotate_left
      · (intro w hSw; (try dsimp only at hSw); go_simp; try with_reducible rfl)
      simp only [List.getElem_toArray, List.getElem_cons_zero, List.getElem_cons_succ, Act.put, List.setIfInBounds_toArray, List.set_cons_zero, List.set_cons_succ]
      refine wpAnyH_take (i := 9) (v := ?_) rfl (by kernel_rfl) (by kernel_rfl) (by kernel_rfl) (fun _ _ _ h => h) (Or.inl ⟨by rfl, ?_⟩) hS0 ?_
      rotate_left
      · (intro w hSw; (try dsimp only at hSw); go_simp; try with_reducible rfl)
      simp only [List.getElem_toArray, List.getElem_cons_zero, List.getElem_cons_succ, Act.put, List.setIfInBounds_toArray, List.set_cons_zero, List.set_cons_succ]
      refine wpAnyH_take (i := 10) (v := ?_) rfl (by kernel_rfl) (by kernel_rfl) (by kernel_rfl) (fun _ _ _ h => h) (Or.inl ⟨by rfl, ?_⟩) hS0 ?_
      rotate_left
      · (intro w hSw; (try dsimp only at hSw); go_simp; try with_reducible rfl)
      simp only [List.getElem_toArray, List.getElem_cons_zero, List.getElem_cons_succ, Act.put, List.setIfInBounds_toArray, List.set_cons_zero, List.set_cons_succ]
      refine wpAnyH_ready (rs := [11]) (by kernel_rfl) (by simp) ?_
      refine AllReadyH.cons rfl (fun K hK => ?_) AllReadyH.nil
      rw [if_pos (show Region.wanted _ _ = true from by rfl)]
      clear hcat hcatP hcat32 hcat10 hsz
      go_simp
      refine (hrw _ hS0.2.2.1).mono ?_
      rintro e w' ⟨rfl, rfl⟩
      have hcat : ∀ x y : List UInt8, (⟨x.toArray⟩ : ByteArray) ++ ⟨y.toArray⟩ = ⟨(x ++ y).toArray⟩ := cat_bytes
      have hsz : ∀ x : List UInt8, (⟨x.toArray⟩ : ByteArray).size = x.length := strS
      have hsum : ¬ (9223372036854775807 < SX.length + RX.length) := by omega
      (try go_simp)
      refine hK.out _ _ hS0 (fun _ => ?_)
      clear hK K
      simp only [List.getElem_toArray, List.getElem_cons_zero, List.getElem_cons_succ, Act.put, List.setIfInBounds_toArray, List.set_cons_zero, List.set_cons_succ]
      refine wpAnyH_take (i := 12) (v := ?_) rfl (by kernel_rfl) (by kernel_rfl) (by kernel_rfl) (fun _ _ _ h => h) (Or.inl ⟨by rfl, ?_⟩) hS0 ?_
      rotate_left
      · (intro w hSw; (try dsimp only at hSw); go_simp; try with_reducible rfl)
      simp only [List.getElem_toArray, List.getElem_cons_zero, List.getElem_cons_succ, Act.put, List.setIfInBounds_toArray, List.set_cons_zero, List.set_cons_succ]
      refine wpAnyH_take (i := 13) (v := ?_) rfl (by kernel_rfl) (by kernel_rfl) (by kernel_rfl) (fun _ _ _ h => h) (Or.inl ⟨by rfl, ?_⟩) hS0 ?_
      rotate_left
      · (intro w hSw; (try dsimp only at hSw); go_simp; try with_reducible rfl)
      simp only [List.getElem_toArray, List.getElem_cons_zero, List.getElem_cons_succ, Act.put, List.setIfInBounds_toArray, List.set_cons_zero, List.set_cons_succ]
      refine wpAnyH_done (by kernel_rfl) ?_ _
      have z0 := hS0.1
      have z1 := hS0.2.1
      have hnm := hS0.2.2.1
      have hbw := hS0.2.2.2
      clear hS0
      go_wp2_with fail
      refine ⟨⟨k + 1, by omega, by go_num, by rw [HSX.out], hlk.out, hbw⟩, ?_⟩
      simp [intOf] <;> omega
    · obtain rfl : k = PS.length := by omega
      have hbw := hbr.out
      rw [List.take_length] at hln ⊢
      have hw0 : Below w.heap.size w wr := HB3.out.trans (hbw.mono HB3.out.size)
      have k1 : wr.cell? ⟨w.heap.size, 1, none⟩ = some (.slice o0 l0 c0) := (hbw.cell (cell_lt (HX3.out.cell 1))).trans (HX3.out.cell 1)
      have k2 : wr.cell? ⟨w.heap.size, 2, none⟩ = some (.slice o1 l1 c1) := (hbw.cell (cell_lt (HX3.out.cell 2))).trans (HX3.out.cell 2)
      have k3 : wr.cell? ⟨w.heap.size, 3, none⟩ = some (.slice o2 l2 c2) := (hbw.cell (cell_lt (HX3.out.cell 3))).trans (HX3.out.cell 3)
      have q0 : NumsAt wr .u8 o0 l0 (fun i => (F0 i : Int)) := HA.out.2.1.below hw0 (Nat.le_refl _)
      have q1 : NumsAt wr .u8 o1 l1 (fun i => (F1 i : Int)) := HA.out.2.2.1.below hw0 (Nat.le_refl _)
      have q2 : NumsAt wr .u8 o2 l2 (fun i => (F2 i : Int)) := HA.out.2.2.2.1.below hw0 (Nat.le_refl _)
      have hr0 : ∀ W, NumsAt W .u8 o0 l0 (fun i => (F0 i : Int)) → Calls Tryd.prog 50 #[.string ⟨#[118, 100, 99]⟩, .int .i64 0, .slice o0 l0 c0] W fun e w' => e = .returned (.string ⟨(rwK wVdc 0 l0 F0 l0).toArray⟩) ∧ W = w' := fun W h => rrow_calls wVdc 0 l0 c0 o0 F0 W (by decide) (by omega) (by omega) hF0 h
      have hr1 : ∀ W, NumsAt W .u8 o1 l1 (fun i => (F1 i : Int)) → Calls Tryd.prog 50 #[.string ⟨#[118, 99, 101]⟩, .int .i64 0, .slice o1 l1 c1] W fun e w' => e = .returned (.string ⟨(rwK wVce 0 l1 F1 l1).toArray⟩) ∧ W = w' := fun W h => rrow_calls wVce 0 l1 c1 o1 F1 W (by decide) (by omega) (by omega) hF1 h
      have hr2 : ∀ W, NumsAt W .u8 o2 l2 (fun i => (F2 i : Int)) → Calls Tryd.prog 50 #[.string ⟨#[112, 111, 114, 116]⟩, .int .i64 0, .slice o2 l2 c2] W fun e w' => e = .returned (.string ⟨(rwK wPort 0 l2 F2 l2).toArray⟩) ∧ W = w' := fun W h => rrow_calls wPort 0 l2 c2 o2 F2 W (by decide) (by omega) (by omega) hF2 h
      have g0 := rwK_len wVdc 0 l0 F0 (by decide) l0
      have g1 := rwK_len wVce 0 l1 F1 (by decide) l1
      have g2 := rwK_len wPort 0 l2 F2 (by decide) l2
      have hsl : (txA n ++ pcT F PS).length ≤ 26 + PS.length * 300000 := by rw [List.length_append]; omega
      have HTX : Hid (txC n F l0 l1 l2 F0 F1 F2 = txA n ++ pcT F PS ++ rwK wVdc 0 l0 F0 l0 ++ rwK wVce 0 l1 F1 l1 ++ rwK wPort 0 l2 F2 l2) := by unfold Hid txC txB; rw [HPQ.out]
      generalize txA n ++ pcT F PS = SX at *
      generalize rwK wVdc 0 l0 F0 l0 = R0 at *
      generalize rwK wVce 0 l1 F1 l1 = R1 at *
      generalize rwK wPort 0 l2 F2 l2 = R2 at *
      have hPL20 : PS.length ≤ 20000 := by omega
      clear hbr hta e3 e1 hwq HPS HRB
      have HSL : Hid (SX.length + R0.length + R1.length + R2.length ≤ 6100000000) := by unfold Hid; omega
      clear hln g0 g1 g2 hsl hcatP hcat10 hcat32
      go_wp2_with fail
      refine wp_region_held_drew (S := fun W => W.cell? ⟨w.heap.size, 1, none⟩ = some (.slice o0 l0 c0) ∧ W.cell? ⟨w.heap.size, 2, none⟩ = some (.slice o1 l1 c1) ∧ W.cell? ⟨w.heap.size, 3, none⟩ = some (.slice o2 l2 c2) ∧ NumsAt W .u8 o0 l0 (fun i => (F0 i : Int)) ∧ NumsAt W .u8 o1 l1 (fun i => (F1 i : Int)) ∧ NumsAt W .u8 o2 l2 (fun i => (F2 i : Int)) ∧ Below w3.heap.size w3 W) (by kernel_rfl) ⟨(by first | exact k1.drew | exact k1 | exact Below.drew k1), (by first | exact k2.drew | exact k2 | exact Below.drew k2), (by first | exact k3.drew | exact k3 | exact Below.drew k3), (by first | exact q0.drew | exact q0 | exact Below.drew q0), (by first | exact q1.drew | exact q1 | exact Below.drew q1), (by first | exact q2.drew | exact q2 | exact Below.drew q2), (by first | exact hbw.drew | exact hbw | exact Below.drew hbw)⟩ (fun hS0 => ?_)
      clear k1 k2 k3 q0 q1 q2 hbw
      change wpAnyH _ _ _ _ _ 17 #[false, false, false, false, false, false, false, false, false, false, false, false, false, false, false, false, false] _ _
      generalize wr.drew = v0 at *
      refine wpAnyH_take (i := 0) (v := ?_) rfl (by kernel_rfl) (by kernel_rfl) (by kernel_rfl) (fun _ _ _ h => h) (Or.inl ⟨by rfl, ?_⟩) hS0 ?_
      rotate_left
      · (intro w hSw; (try dsimp only at hSw); go_simp; try with_reducible rfl)
      simp only [List.getElem_toArray, List.getElem_cons_zero, List.getElem_cons_succ, Act.put, List.setIfInBounds_toArray, List.set_cons_zero, List.set_cons_succ]
      refine wpAnyH_take (i := 1) (v := ?_) rfl (by kernel_rfl) (by kernel_rfl) (by kernel_rfl) (fun _ _ _ h => h) (Or.inl ⟨by rfl, ?_⟩) hS0 ?_
      rotate_left
      · (intro w hSw; (try dsimp only at hSw); go_simp; try with_reducible rfl)
      simp only [List.getElem_toArray, List.getElem_cons_zero, List.getElem_cons_succ, Act.put, List.setIfInBounds_toArray, List.set_cons_zero, List.set_cons_succ]
      refine wpAnyH_take (i := 2) (v := ?_) rfl (by kernel_rfl) (by kernel_rfl) (by kernel_rfl) (fun _ _ _ h => h) (Or.inl ⟨by rfl, ?_⟩) hS0 ?_
      rotate_left
      · (intro w hSw; (try dsimp only at hSw); go_simp; try with_reducible rfl)
      simp only [List.getElem_toArray, List.getElem_cons_zero, List.getElem_cons_succ, Act.put, List.setIfInBounds_toArray, List.set_cons_zero, List.set_cons_succ]
      refine wpAnyH_take (i := 3) (v := ?_) rfl (by kernel_rfl) (by kernel_rfl) (by kernel_rfl) (fun _ _ _ h => h) (Or.inl ⟨by rfl, ?_⟩) hS0 ?_
      rotate_left
      · (intro w hSw; (try dsimp only at hSw); go_simp; try with_reducible rfl)
      simp only [List.getElem_toArray, List.getElem_cons_zero, List.getElem_cons_succ, Act.put, List.setIfInBounds_toArray, List.set_cons_zero, List.set_cons_succ]
      refine wpAnyH_take (i := 6) (v := ?_) rfl (by kernel_rfl) (by kernel_rfl) (by kernel_rfl) (fun _ _ _ h => h) (Or.inl ⟨by rfl, ?_⟩) hS0 ?_
      rotate_left
      · (intro w hSw; (try dsimp only at hSw); go_simp; try with_reducible rfl)
      simp only [List.getElem_toArray, List.getElem_cons_zero, List.getElem_cons_succ, Act.put, List.setIfInBounds_toArray, List.set_cons_zero, List.set_cons_succ]
      refine wpAnyH_take (i := 7) (v := ?_) rfl (by kernel_rfl) (by kernel_rfl) (by kernel_rfl) (fun _ _ _ h => h) (Or.inl ⟨by rfl, ?_⟩) hS0 ?_
      rotate_left
      · (intro w hSw; (try dsimp only at hSw); go_simp; try with_reducible rfl)
      simp only [List.getElem_toArray, List.getElem_cons_zero, List.getElem_cons_succ, Act.put, List.setIfInBounds_toArray, List.set_cons_zero, List.set_cons_succ]
      refine wpAnyH_take (i := 8) (v := ?_) rfl (by kernel_rfl) (by kernel_rfl) (by kernel_rfl) (fun _ _ _ h => h) (Or.inl ⟨by rfl, ?_⟩) hS0 ?_
      rotate_left
      · (intro w hSw; (try dsimp only at hSw); go_simp; try with_reducible rfl)
      simp only [List.getElem_toArray, List.getElem_cons_zero, List.getElem_cons_succ, Act.put, List.setIfInBounds_toArray, List.set_cons_zero, List.set_cons_succ]
      refine wpAnyH_take (i := 11) (v := ?_) rfl (by kernel_rfl) (by kernel_rfl) (by kernel_rfl) (fun _ _ _ h => h) (Or.inl ⟨by rfl, ?_⟩) hS0 ?_
      rotate_left
      · (intro w hSw; (try dsimp only at hSw); go_simp; try with_reducible rfl)
      simp only [List.getElem_toArray, List.getElem_cons_zero, List.getElem_cons_succ, Act.put, List.setIfInBounds_toArray, List.set_cons_zero, List.set_cons_succ]
      refine wpAnyH_take (i := 12) (v := ?_) rfl (by kernel_rfl) (by kernel_rfl) (by kernel_rfl) (fun _ _ _ h => h) (Or.inl ⟨by rfl, ?_⟩) hS0 ?_
      rotate_left
      · (intro w hSw; (try dsimp only at hSw); go_simp; try with_reducible rfl)
      simp only [List.getElem_toArray, List.getElem_cons_zero, List.getElem_cons_succ, Act.put, List.setIfInBounds_toArray, List.set_cons_zero, List.set_cons_succ]
      refine wpAnyH_take (i := 13) (v := ?_) rfl (by kernel_rfl) (by kernel_rfl) (by kernel_rfl) (fun _ _ _ h => h) (Or.inl ⟨by rfl, ?_⟩) hS0 ?_
      rotate_left
      · (intro w hSw; (try dsimp only at hSw); go_simp; try with_reducible rfl)
      simp only [List.getElem_toArray, List.getElem_cons_zero, List.getElem_cons_succ, Act.put, List.setIfInBounds_toArray, List.set_cons_zero, List.set_cons_succ]
      refine wpAnyH_ready (rs := [4]) (by kernel_rfl) (by simp) ?_
      refine AllReadyH.cons rfl (fun K hK => ?_) AllReadyH.nil
      rw [if_pos (show Region.wanted _ _ = true from by rfl)]
      clear hcat hsz
      go_simp
      refine (hr0 _ hS0.2.2.2.1).mono ?_
      rintro e w' ⟨rfl, rfl⟩
      have hcat : ∀ x y : List UInt8, (⟨x.toArray⟩ : ByteArray) ++ ⟨y.toArray⟩ = ⟨(x ++ y).toArray⟩ := cat_bytes
      have hsz : ∀ x : List UInt8, (⟨x.toArray⟩ : ByteArray).size = x.length := strS
      have hsl := HSL.out
      have hs : ¬ (9223372036854775807 < SX.length + R0.length) := by omega
      clear hsl
      (try go_simp)
      refine hK.out _ _ hS0 (fun _ => ?_)
      clear hK K
      simp only [List.getElem_toArray, List.getElem_cons_zero, List.getElem_cons_succ, Act.put, List.setIfInBounds_toArray, List.set_cons_zero, List.set_cons_succ]
      refine wpAnyH_take (i := 5) (v := ?_) rfl (by kernel_rfl) (by kernel_rfl) (by kernel_rfl) (fun _ _ _ h => h) (Or.inl ⟨by rfl, ?_⟩) hS0 ?_
      rotate_left
      · (intro w hSw; (try dsimp only at hSw); go_simp; try with_reducible rfl)
      simp only [List.getElem_toArray, List.getElem_cons_zero, List.getElem_cons_succ, Act.put, List.setIfInBounds_toArray, List.set_cons_zero, List.set_cons_succ]
      refine wpAnyH_ready (rs := [9]) (by kernel_rfl) (by simp) ?_
      refine AllReadyH.cons rfl (fun K hK => ?_) AllReadyH.nil
      rw [if_pos (show Region.wanted _ _ = true from by rfl)]
      clear hcat hsz hs
      go_simp
      refine (hr1 _ hS0.2.2.2.2.1).mono ?_
      rintro e w' ⟨rfl, rfl⟩
      have hcat : ∀ x y : List UInt8, (⟨x.toArray⟩ : ByteArray) ++ ⟨y.toArray⟩ = ⟨(x ++ y).toArray⟩ := cat_bytes
      have hsz : ∀ x : List UInt8, (⟨x.toArray⟩ : ByteArray).size = x.length := strS
      have hsl := HSL.out
      have hs : ¬ (9223372036854775807 < SX.length + R0.length + R1.length) := by omega
      have hs2 : ¬ (9223372036854775807 < SX.length + (R0.length + R1.length)) := by omega
      clear hsl
      (try go_simp)
      refine hK.out _ _ hS0 (fun _ => ?_)
      clear hK K
      simp only [List.getElem_toArray, List.getElem_cons_zero, List.getElem_cons_succ, Act.put, List.setIfInBounds_toArray, List.set_cons_zero, List.set_cons_succ]
      refine wpAnyH_take (i := 10) (v := ?_) rfl (by kernel_rfl) (by kernel_rfl) (by kernel_rfl) (fun _ _ _ h => h) (Or.inl ⟨by rfl, ?_⟩) hS0 ?_
      rotate_left
      · (intro w hSw; (try dsimp only at hSw); go_simp; try with_reducible rfl)
      simp only [List.getElem_toArray, List.getElem_cons_zero, List.getElem_cons_succ, Act.put, List.setIfInBounds_toArray, List.set_cons_zero, List.set_cons_succ]
      refine wpAnyH_ready (rs := [14]) (by kernel_rfl) (by simp) ?_
      refine AllReadyH.cons rfl (fun K hK => ?_) AllReadyH.nil
      rw [if_pos (show Region.wanted _ _ = true from by rfl)]
      clear hcat hsz hs hs2
      go_simp
      refine (hr2 _ hS0.2.2.2.2.2.1).mono ?_
      rintro e w' ⟨rfl, rfl⟩
      have hcat : ∀ x y : List UInt8, (⟨x.toArray⟩ : ByteArray) ++ ⟨y.toArray⟩ = ⟨(x ++ y).toArray⟩ := cat_bytes
      have hsz : ∀ x : List UInt8, (⟨x.toArray⟩ : ByteArray).size = x.length := strS
      have hsl := HSL.out
      have hs : ¬ (9223372036854775807 < SX.length + R0.length + R1.length + R2.length) := by omega
      have hs2 : ¬ (9223372036854775807 < SX.length + (R0.length + R1.length) + R2.length) := by omega
      have hs3 : ¬ (9223372036854775807 < SX.length + (R0.length + (R1.length + R2.length))) := by omega
      clear hsl
      (try go_simp)
      refine hK.out _ _ hS0 (fun _ => ?_)
      clear hK K
      simp only [List.getElem_toArray, List.getElem_cons_zero, List.getElem_cons_succ, Act.put, List.setIfInBounds_toArray, List.set_cons_zero, List.set_cons_succ]
      refine wpAnyH_take (i := 15) (v := ?_) rfl (by kernel_rfl) (by kernel_rfl) (by kernel_rfl) (fun _ _ _ h => h) (Or.inl ⟨by rfl, ?_⟩) hS0 ?_
      rotate_left
      · (intro w hSw; (try dsimp only at hSw); go_simp; try with_reducible rfl)
      simp only [List.getElem_toArray, List.getElem_cons_zero, List.getElem_cons_succ, Act.put, List.setIfInBounds_toArray, List.set_cons_zero, List.set_cons_succ]
      refine wpAnyH_take (i := 16) (v := ?_) rfl (by kernel_rfl) (by kernel_rfl) (by kernel_rfl) (fun _ _ _ h => h) (Or.inl ⟨by rfl, ?_⟩) hS0 ?_
      rotate_left
      · (intro w hSw; (try dsimp only at hSw); go_simp; try with_reducible rfl)
      simp only [List.getElem_toArray, List.getElem_cons_zero, List.getElem_cons_succ, Act.put, List.setIfInBounds_toArray, List.set_cons_zero, List.set_cons_succ]
      refine wpAnyH_done (by kernel_rfl) ?_ _
      have k1 := hS0.1
      have k2 := hS0.2.1
      have k3 := hS0.2.2.1
      have q0 := hS0.2.2.2.1
      have q1 := hS0.2.2.2.2.1
      have q2 := hS0.2.2.2.2.2.1
      have hbw := hS0.2.2.2.2.2.2
      clear hS0
      have HT2 : Hid (txC n F l0 l1 l2 F0 F1 F2 = SX ++ (R0 ++ (R1 ++ R2))) := by unfold Hid; rw [HTX.out]; simp
      have HTL : Hid ((SX ++ (R0 ++ (R1 ++ R2))).length ≤ 6100000000) := by have := HSL.out; unfold Hid; simp only [List.length_append]; omega
      generalize SX ++ (R0 ++ (R1 ++ R2)) = TX at *
      have hNb : Blk (v0.alloc (.cells #[.string ⟨#[]⟩, .string ⟨#[]⟩, .string ⟨#[]⟩, .string ⟨#[]⟩] 99)) v0.heap.size 99 #[.string ⟨#[]⟩, .string ⟨#[]⟩, .string ⟨#[]⟩, .string ⟨#[]⟩] := Blk.new _ _ _
      have sR := setRow_new v0 #[.string ⟨#[]⟩, .string ⟨#[]⟩, .string ⟨#[]⟩, .string ⟨#[]⟩] #[Value.string ⟨#[114, 101, 115, 101, 116]⟩, .string ⟨#[110, 109, 105]⟩, .string ⟨#[105, 114, 113, 49]⟩, .string ⟨#[105, 114, 113, 50]⟩] 99
      clear hr0 hr1 hr2 k1 k2 k3 q0 q1 q2 hs hs2 hs3
      go_wp2_with (first | (refine wpList_store_row rfl 99 _ _ rfl v0.heap.size #[Value.string ⟨#[114, 101, 115, 101, 116]⟩, .string ⟨#[110, 109, 105]⟩, .string ⟨#[105, 114, 113, 49]⟩, .string ⟨#[105, 114, 113, 50]⟩] rfl rfl 99 _ hNb (by kernel_rfl) rfl (by kernel_rfl) ?_; rw [sR]))
      have hb4 : Below w3.heap.size w3 (v0.alloc (.cells #[Value.string ⟨#[114, 101, 115, 101, 116]⟩, .string ⟨#[110, 109, 105]⟩, .string ⟨#[105, 114, 113, 49]⟩, .string ⟨#[105, 114, 113, 50]⟩] 99)) := hbw.trans ((Bl.alloc (Below.refl _ _) _).mono hbw.size)
      have hG : Blk (v0.alloc (.cells #[Value.string ⟨#[114, 101, 115, 101, 116]⟩, .string ⟨#[110, 109, 105]⟩, .string ⟨#[105, 114, 113, 49]⟩, .string ⟨#[105, 114, 113, 50]⟩] 99)) v0.heap.size 99 #[Value.string ⟨#[114, 101, 115, 101, 116]⟩, .string ⟨#[110, 109, 105]⟩, .string ⟨#[105, 114, 113, 49]⟩, .string ⟨#[105, 114, 113, 50]⟩] := Blk.new _ _ _
      clear hNb sR hbw
      generalize v0.alloc (.cells #[Value.string ⟨#[114, 101, 115, 101, 116]⟩, .string ⟨#[110, 109, 105]⟩, .string ⟨#[105, 114, 113, 49]⟩, .string ⟨#[105, 114, 113, 50]⟩] 99) = w4 at *
      generalize v0.heap.size = gn at *
      have HG := hide hG
      have H4 : Hid (Below w.heap.size w w4) := HB3.out.trans (hb4.mono HB3.out.size)
      have HX4 : Hid (Blk w4 w.heap.size 27 #[Value.slice o n c, Value.slice o0 l0 c0, Value.slice o1 l1 c1, Value.slice o2 l2 c2, Value.slice oe ne ce, Value.int .i64 (bud : Int)]) := HX3.out.below hb4 HX3.out.lt
      clear hG hb4
      go_loopw [3, 7] (fun v3 v7 wr => ∃ k : Nat, k ≤ ne ∧ v7 = .int .i64 (k : Int) ∧ v3 = .string ⟨(TX ++ edsT St Ln Up k).toArray⟩ ∧ (edsT St Ln Up k).length ≤ k * 40 ∧ Hid (Below w4.heap.size w4 wr)) (fun _ v7 _ => ne - (intOf v7).toNat)
      case atStart => exact ⟨0, by omega, rfl, by simp [edsT], by simp [edsT], Below.refl _ _⟩
      case round =>
        obtain ⟨k, hk, rfl, rfl, hln, hbr⟩ := hrel
        have hbw := hbr.out
        have hw0 : Below w.heap.size w wr := H4.out.trans (hbw.mono H4.out.size)
        have k4 : wr.cell? ⟨w.heap.size, 4, none⟩ = some (.slice oe ne ce) := (hbw.cell (cell_lt (HX4.out.cell 4))).trans (HX4.out.cell 4)
        have HL := hide hln
        clear hbr hln
        rcases Nat.lt_or_ge k ne with hlt | hge
        · have hE := HA.out.2.2.2.2.below hw0 (Nat.le_refl _)
          obtain ⟨b, off, rfl, hbb, _⟩ := hE k hlt
          have hr := edge_range hE hlt
          unfold edR at hr
          have hk1 : (k : Int) < (ne : Int) := by omega
          have hdk := fun W => rdec_calls (St k) W (hS k hlt)
          have hdkl := decL_len (St k)
          obtain ⟨DK, hDK⟩ : ∃ DK, Hid (decL (St k) = DK) := ⟨_, rfl⟩
          rw [hDK.out] at hdk hdkl
          have z4 : wr.cell? ⟨gn, Ln k, none⟩ = some (.string ⟨(nmF (Ln k)).toArray⟩) := (hbw.cell (cell_lt ((HG.out.cell (Ln k)).trans (nms_cell _ (hLn k hlt))))).trans ((HG.out.cell (Ln k)).trans (nms_cell _ (hLn k hlt)))
          have hnl := nmF_len (Ln k)
          have hl4 := hLn k hlt
          have hl4i : ((Ln k : Nat) : Int) < 4 := by omega
          clear hE hbb hw0
          rcases Bool.eq_false_or_eq_true (Up k) with hU | hU
          · have hup : Up k = true := hU
            rw [hup] at hr
            have hedT : Hid (edT St Ln Up k = [117, 112, 32] ++ (DK ++ (32 :: (nmF (Ln k) ++ [10])))) := by unfold Hid edT; rw [hup, hDK.out]; simp [wUp, wDown]
            have HU := hide hU
            clear hU hup
            have sR := setRow_new wr #[.int .i64 0, .int .u8 0, .bool false] #[.int .i64 (St k : Int), .int .u8 (Ln k : Int), .bool true] 31
            have hZ : Blk (wr.alloc (.cells #[.int .i64 0, .int .u8 0, .bool false] 31)) wr.heap.size 31 #[.int .i64 0, .int .u8 0, .bool false] := Blk.new _ _ _
            have hX5 : Blk (wr.alloc (.cells #[.int .i64 (St k : Int), .int .u8 (Ln k : Int), .bool true] 31)) wr.heap.size 31 #[.int .i64 (St k : Int), .int .u8 (Ln k : Int), .bool true] := Blk.new _ _ _
            have hk2 := hX5.cell 2
            go_wp2_with (first | (refine wpList_load_mid rfl 31 _ rfl b (off + k * 3) rfl [Value.int .i64 (St k : Int), Value.int .u8 (Ln k : Int), Value.bool true] _ hr Tryd.underlying31 rfl (by kernel_rfl) ?_) | (refine wpList_store_row rfl 31 _ _ rfl wr.heap.size #[.int .i64 (St k : Int), .int .u8 (Ln k : Int), .bool true] rfl rfl 31 _ hZ (by kernel_rfl) rfl (by kernel_rfl) ?_; rw [sR]))
            have hb5 : Below w4.heap.size w4 (wr.alloc (.cells #[.int .i64 (St k : Int), .int .u8 (Ln k : Int), .bool true] 31)) := hbw.trans ((Bl.alloc (Below.refl _ _) _).mono hbw.size)
            have x0 : (wr.alloc (.cells #[.int .i64 (St k : Int), .int .u8 (Ln k : Int), .bool true] 31)).cell? ⟨wr.heap.size, 0, none⟩ = some (.int .i64 (St k : Int)) := hX5.cell 0
            have x1 : (wr.alloc (.cells #[.int .i64 (St k : Int), .int .u8 (Ln k : Int), .bool true] 31)).cell? ⟨wr.heap.size, 1, none⟩ = some (.int .u8 (Ln k : Int)) := hX5.cell 1
            have z5 := ((Bl.alloc (Below.refl wr.heap.size wr) (.cells #[.int .i64 (St k : Int), .int .u8 (Ln k : Int), .bool true] 31)).cell (cell_lt z4)).trans z4
            clear hr sR hZ hX5 hk2 hbw z4 k4
            generalize wr.alloc (.cells #[.int .i64 (St k : Int), .int .u8 (Ln k : Int), .bool true] 31) = w5 at *
            generalize wr.heap.size = gx at *
            have HSN : Hid (TX ++ edsT St Ln Up (k + 1) = (TX ++ edsT St Ln Up k) ++ ([117, 112, 32] ++ (DK ++ (32 :: (nmF (Ln k) ++ [10]))))) := by unfold Hid; rw [edsT_snoc, hedT.out, List.append_assoc]
            have hlk : Hid ((edsT St Ln Up (k + 1)).length ≤ (k + 1) * 40) := by have := HL.out; unfold Hid; rw [edsT_snoc, hedT.out]; simp only [List.length_append, List.length_cons, List.length_nil]; omega
            have hsk : (TX ++ edsT St Ln Up k).length ≤ 6200000000 := by have := HL.out; have := HTL.out; rw [List.length_append]; omega
            generalize TX ++ edsT St Ln Up k = SK at *
            generalize nmF (Ln k) = NK at *
            have hcatU : ∀ x : List UInt8, (⟨x.toArray⟩ : ByteArray) ++ ⟨#[117, 112, 32]⟩ = ⟨(x ++ [117, 112, 32]).toArray⟩ := fun x => cat_bytes x [117, 112, 32]
            have hs1 : ¬ (9223372036854775807 < SK.length + 3) := by omega
            have HSK := hide hsk
            clear hsk
            have hcat32 : ∀ x : List UInt8, (⟨x.toArray⟩ : ByteArray) ++ ⟨#[32]⟩ = ⟨(x ++ [32]).toArray⟩ := fun x => cat_bytes x [32]
            have hcat10 : ∀ x : List UInt8, (⟨x.toArray⟩ : ByteArray) ++ ⟨#[10]⟩ = ⟨(x ++ [10]).toArray⟩ := fun x => cat_bytes x [10]
            refine wp_region_held_drew (S := fun W => W.cell? ⟨gx, 0, none⟩ = some (.int .i64 (St k : Int)) ∧ W.cell? ⟨gx, 1, none⟩ = some (.int .u8 (Ln k : Int)) ∧ W.cell? ⟨gn, Ln k, none⟩ = some (.string ⟨NK.toArray⟩) ∧ Below w4.heap.size w4 W) (by kernel_rfl) ⟨(by first | exact x0.drew | exact x0 | exact Below.drew x0), (by first | exact x1.drew | exact x1 | exact Below.drew x1), (by first | exact z5.drew | exact z5 | exact Below.drew z5), (by first | exact hb5.drew | exact hb5 | exact Below.drew hb5)⟩ (fun hS0 => ?_)
            clear x0 x1 z5 hb5
            change wpAnyH _ _ _ _ _ 15 #[false, false, false, false, false, false, false, false, false, false, false, false, false, false, false] _ _
            generalize w5.drew = v0 at *
            refine wpAnyH_take (i := 0) (v := ?_) rfl (by kernel_rfl) (by kernel_rfl) (by kernel_rfl) (fun _ _ _ h => h) (Or.inl ⟨by rfl, ?_⟩) hS0 ?_
            rotate_left
            · (intro w hSw; (try dsimp only at hSw); go_simp; try with_reducible rfl)
            simp only [List.getElem_toArray, List.getElem_cons_zero, List.getElem_cons_succ, Act.put, List.setIfInBounds_toArray, List.set_cons_zero, List.set_cons_succ]
            refine wpAnyH_take (i := 1) (v := ?_) rfl (by kernel_rfl) (by kernel_rfl) (by kernel_rfl) (fun _ _ _ h => h) (Or.inl ⟨by rfl, ?_⟩) hS0 ?_
            rotate_left
            · (intro w hSw; (try dsimp only at hSw); go_simp; try with_reducible rfl)
            simp only [List.getElem_toArray, List.getElem_cons_zero, List.getElem_cons_succ, Act.put, List.setIfInBounds_toArray, List.set_cons_zero, List.set_cons_succ]
            refine wpAnyH_take (i := 2) (v := ?_) rfl (by kernel_rfl) (by kernel_rfl) (by kernel_rfl) (fun _ _ _ h => h) (Or.inl ⟨by rfl, ?_⟩) hS0 ?_
            rotate_left
            · (intro w hSw; (try dsimp only at hSw); go_simp; try with_reducible rfl)
            simp only [List.getElem_toArray, List.getElem_cons_zero, List.getElem_cons_succ, Act.put, List.setIfInBounds_toArray, List.set_cons_zero, List.set_cons_succ]
            refine wpAnyH_take (i := 3) (v := ?_) rfl (by kernel_rfl) (by kernel_rfl) (by kernel_rfl) (fun _ _ _ h => h) (Or.inl ⟨by rfl, ?_⟩) hS0 ?_
            rotate_left
            · (intro w hSw; (try dsimp only at hSw); go_simp; try with_reducible rfl)
            simp only [List.getElem_toArray, List.getElem_cons_zero, List.getElem_cons_succ, Act.put, List.setIfInBounds_toArray, List.set_cons_zero, List.set_cons_succ]
            refine wpAnyH_take (i := 4) (v := ?_) rfl (by kernel_rfl) (by kernel_rfl) (by kernel_rfl) (fun _ _ _ h => h) (Or.inl ⟨by rfl, ?_⟩) hS0 ?_
            rotate_left
            · (intro w hSw; (try dsimp only at hSw); go_simp; try with_reducible rfl)
            simp only [List.getElem_toArray, List.getElem_cons_zero, List.getElem_cons_succ, Act.put, List.setIfInBounds_toArray, List.set_cons_zero, List.set_cons_succ]
            refine wpAnyH_take (i := 8) (v := ?_) rfl (by kernel_rfl) (by kernel_rfl) (by kernel_rfl) (fun _ _ _ h => h) (Or.inl ⟨by rfl, ?_⟩) hS0 ?_
            rotate_left
            · (intro w hSw; (try dsimp only at hSw); go_simp; try with_reducible rfl)
            simp only [List.getElem_toArray, List.getElem_cons_zero, List.getElem_cons_succ, Act.put, List.setIfInBounds_toArray, List.set_cons_zero, List.set_cons_succ]
            refine wpAnyH_take (i := 9) (v := ?_) rfl (by kernel_rfl) (by kernel_rfl) (by kernel_rfl) (fun _ _ _ h => h) (Or.inl ⟨by rfl, ?_⟩) hS0 ?_
            rotate_left
            · (intro w hSw; (try dsimp only at hSw); go_simp; try with_reducible rfl)
            simp only [List.getElem_toArray, List.getElem_cons_zero, List.getElem_cons_succ, Act.put, List.setIfInBounds_toArray, List.set_cons_zero, List.set_cons_succ]
            refine wpAnyH_take (i := 10) (v := ?_) rfl (by kernel_rfl) (by kernel_rfl) (by kernel_rfl) (fun _ _ _ h => h) (Or.inl ⟨by rfl, ?_⟩) hS0 ?_
            rotate_left
            · (intro w hSw; (try dsimp only at hSw); go_simp; try with_reducible rfl)
            simp only [List.getElem_toArray, List.getElem_cons_zero, List.getElem_cons_succ, Act.put, List.setIfInBounds_toArray, List.set_cons_zero, List.set_cons_succ]
            refine wpAnyH_take (i := 11) (v := ?_) rfl (by kernel_rfl) (by kernel_rfl) (by kernel_rfl) (fun _ _ _ h => h) (Or.inl ⟨by rfl, ?_⟩) hS0 ?_
            rotate_left
            · (intro w hSw; (try dsimp only at hSw); go_simp; try with_reducible rfl)
            simp only [List.getElem_toArray, List.getElem_cons_zero, List.getElem_cons_succ, Act.put, List.setIfInBounds_toArray, List.set_cons_zero, List.set_cons_succ]
            refine wpAnyH_ready (rs := [5]) (by kernel_rfl) (by simp) ?_
            refine AllReadyH.cons rfl (fun K hK => ?_) AllReadyH.nil
            rw [if_pos (show Region.wanted _ _ = true from by rfl)]
            clear hcat hsz hcatU hcat32 hcat10
            go_simp
            refine (hdk _).mono ?_
            rintro e v1 ⟨rfl, hb1⟩
            have hcat : ∀ x y : List UInt8, (⟨x.toArray⟩ : ByteArray) ++ ⟨y.toArray⟩ = ⟨(x ++ y).toArray⟩ := cat_bytes
            have hsz : ∀ x : List UInt8, (⟨x.toArray⟩ : ByteArray).size = x.length := strS
            have hcat32 : ∀ x : List UInt8, (⟨x.toArray⟩ : ByteArray) ++ ⟨#[32]⟩ = ⟨(x ++ [32]).toArray⟩ := fun x => cat_bytes x [32]
            have hcat10 : ∀ x : List UInt8, (⟨x.toArray⟩ : ByteArray) ++ ⟨#[10]⟩ = ⟨(x ++ [10]).toArray⟩ := fun x => cat_bytes x [10]
            have hsk := HSK.out
            have hs2 : ¬ (9223372036854775807 < SK.length + 3 + DK.length) := by omega
            have hs3 : ¬ (9223372036854775807 < SK.length + (DK.length + 3) + 1) := by omega
            have hs4 : ¬ (9223372036854775807 < SK.length + (DK.length + 4) + NK.length) := by omega
            have hs5 : ¬ (9223372036854775807 < SK.length + (DK.length + (NK.length + 1) + 1 + 1 + 1) + 1) := by omega
            clear hsk
            (try go_simp)
            refine hK.out _ _ ⟨(by first | exact hS0.1.below hb1 hS0.1.lt | exact hS0.1.trans (hb1.mono hS0.1.size) | exact hS0.1.trans (hb1.mono (by have := hS0.1.size; omega)) | exact (hb1.cell (cell_lt hS0.1)).trans hS0.1 | exact hS0.1.below hb1 (Nat.le_refl _) | exact hS0.1.low hb1 | exact hS0.1.below hb1 | exact hS0.1.trans (Only.of hb1)), (by first | exact hS0.2.1.below hb1 hS0.2.1.lt | exact hS0.2.1.trans (hb1.mono hS0.2.1.size) | exact hS0.2.1.trans (hb1.mono (by have := hS0.2.1.size; omega)) | exact (hb1.cell (cell_lt hS0.2.1)).trans hS0.2.1 | exact hS0.2.1.below hb1 (Nat.le_refl _) | exact hS0.2.1.low hb1 | exact hS0.2.1.below hb1 | exact hS0.2.1.trans (Only.of hb1)), (by first | exact hS0.2.2.1.below hb1 hS0.2.2.1.lt | exact hS0.2.2.1.trans (hb1.mono hS0.2.2.1.size) | exact hS0.2.2.1.trans (hb1.mono (by have := hS0.2.2.1.size; omega)) | exact (hb1.cell (cell_lt hS0.2.2.1)).trans hS0.2.2.1 | exact hS0.2.2.1.below hb1 (Nat.le_refl _) | exact hS0.2.2.1.low hb1 | exact hS0.2.2.1.below hb1 | exact hS0.2.2.1.trans (Only.of hb1)), (by first | exact hS0.2.2.2.below hb1 hS0.2.2.2.lt | exact hS0.2.2.2.trans (hb1.mono hS0.2.2.2.size) | exact hS0.2.2.2.trans (hb1.mono (by have := hS0.2.2.2.size; omega)) | exact (hb1.cell (cell_lt hS0.2.2.2)).trans hS0.2.2.2 | exact hS0.2.2.2.below hb1 (Nat.le_refl _) | exact hS0.2.2.2.low hb1 | exact hS0.2.2.2.below hb1 | exact hS0.2.2.2.trans (Only.of hb1))⟩ (fun hS1 => ?_)
            clear hK K
            clear hb1 hS0
            simp only [List.getElem_toArray, List.getElem_cons_zero, List.getElem_cons_succ, Act.put, List.setIfInBounds_toArray, List.set_cons_zero, List.set_cons_succ]
            refine wpAnyH_take (i := 6) (v := ?_) rfl (by kernel_rfl) (by kernel_rfl) (by kernel_rfl) (fun _ _ _ h => h) (Or.inl ⟨by rfl, ?_⟩) hS1 ?_
            rotate_left
            · (intro w hSw; (try dsimp only at hSw); go_simp; try with_reducible rfl)
            simp only [List.getElem_toArray, List.getElem_cons_zero, List.getElem_cons_succ, Act.put, List.setIfInBounds_toArray, List.set_cons_zero, List.set_cons_succ]
            refine wpAnyH_take (i := 7) (v := ?_) rfl (by kernel_rfl) (by kernel_rfl) (by kernel_rfl) (fun _ _ _ h => h) (Or.inl ⟨by rfl, ?_⟩) hS1 ?_
            rotate_left
            · (intro w hSw; (try dsimp only at hSw); go_simp; try with_reducible rfl)
            simp only [List.getElem_toArray, List.getElem_cons_zero, List.getElem_cons_succ, Act.put, List.setIfInBounds_toArray, List.set_cons_zero, List.set_cons_succ]
            refine wpAnyH_take (i := 12) (v := ?_) rfl (by kernel_rfl) (by kernel_rfl) (by kernel_rfl) (fun _ _ _ h => h) (Or.inl ⟨by rfl, ?_⟩) hS1 ?_
            rotate_left
            · (intro w hSw; (try dsimp only at hSw); go_simp; try with_reducible rfl)
            simp only [List.getElem_toArray, List.getElem_cons_zero, List.getElem_cons_succ, Act.put, List.setIfInBounds_toArray, List.set_cons_zero, List.set_cons_succ]
            refine wpAnyH_take (i := 13) (v := ?_) rfl (by kernel_rfl) (by kernel_rfl) (by kernel_rfl) (fun _ _ _ h => h) (Or.inl ⟨by rfl, ?_⟩) hS1 ?_
            rotate_left
            · (intro w hSw; (try dsimp only at hSw); go_simp; try with_reducible rfl)
            simp only [List.getElem_toArray, List.getElem_cons_zero, List.getElem_cons_succ, Act.put, List.setIfInBounds_toArray, List.set_cons_zero, List.set_cons_succ]
            refine wpAnyH_take (i := 14) (v := ?_) rfl (by kernel_rfl) (by kernel_rfl) (by kernel_rfl) (fun _ _ _ h => h) (Or.inl ⟨by rfl, ?_⟩) hS1 ?_
            rotate_left
            · (intro w hSw; (try dsimp only at hSw); go_simp; try with_reducible rfl)
            simp only [List.getElem_toArray, List.getElem_cons_zero, List.getElem_cons_succ, Act.put, List.setIfInBounds_toArray, List.set_cons_zero, List.set_cons_succ]
            refine wpAnyH_done (by kernel_rfl) ?_ _
            have x0 := hS1.1
            have x1 := hS1.2.1
            have z5 := hS1.2.2.1
            have hb5 := hS1.2.2.2
            clear hS1
            go_wp2_with fail
            refine ⟨⟨k + 1, by omega, by go_num, by rw [HSN.out]; simp, hlk.out, hb5⟩, ?_⟩
            simp [intOf] <;> omega
          · have hup : Up k = false := hU
            rw [hup] at hr
            have hedT : Hid (edT St Ln Up k = [100, 111, 119, 110, 32] ++ (DK ++ (32 :: (nmF (Ln k) ++ [10])))) := by unfold Hid edT; rw [hup, hDK.out]; simp [wUp, wDown]
            have HU := hide hU
            clear hU hup
            have sR := setRow_new wr #[.int .i64 0, .int .u8 0, .bool false] #[.int .i64 (St k : Int), .int .u8 (Ln k : Int), .bool false] 31
            have hZ : Blk (wr.alloc (.cells #[.int .i64 0, .int .u8 0, .bool false] 31)) wr.heap.size 31 #[.int .i64 0, .int .u8 0, .bool false] := Blk.new _ _ _
            have hX5 : Blk (wr.alloc (.cells #[.int .i64 (St k : Int), .int .u8 (Ln k : Int), .bool false] 31)) wr.heap.size 31 #[.int .i64 (St k : Int), .int .u8 (Ln k : Int), .bool false] := Blk.new _ _ _
            have hk2 := hX5.cell 2
            go_wp2_with (first | (refine wpList_load_mid rfl 31 _ rfl b (off + k * 3) rfl [Value.int .i64 (St k : Int), Value.int .u8 (Ln k : Int), Value.bool false] _ hr Tryd.underlying31 rfl (by kernel_rfl) ?_) | (refine wpList_store_row rfl 31 _ _ rfl wr.heap.size #[.int .i64 (St k : Int), .int .u8 (Ln k : Int), .bool false] rfl rfl 31 _ hZ (by kernel_rfl) rfl (by kernel_rfl) ?_; rw [sR]))
            have hb5 : Below w4.heap.size w4 (wr.alloc (.cells #[.int .i64 (St k : Int), .int .u8 (Ln k : Int), .bool false] 31)) := hbw.trans ((Bl.alloc (Below.refl _ _) _).mono hbw.size)
            have x0 : (wr.alloc (.cells #[.int .i64 (St k : Int), .int .u8 (Ln k : Int), .bool false] 31)).cell? ⟨wr.heap.size, 0, none⟩ = some (.int .i64 (St k : Int)) := hX5.cell 0
            have x1 : (wr.alloc (.cells #[.int .i64 (St k : Int), .int .u8 (Ln k : Int), .bool false] 31)).cell? ⟨wr.heap.size, 1, none⟩ = some (.int .u8 (Ln k : Int)) := hX5.cell 1
            have z5 := ((Bl.alloc (Below.refl wr.heap.size wr) (.cells #[.int .i64 (St k : Int), .int .u8 (Ln k : Int), .bool false] 31)).cell (cell_lt z4)).trans z4
            clear hr sR hZ hX5 hk2 hbw z4 k4
            generalize wr.alloc (.cells #[.int .i64 (St k : Int), .int .u8 (Ln k : Int), .bool false] 31) = w5 at *
            generalize wr.heap.size = gx at *
            have HSN : Hid (TX ++ edsT St Ln Up (k + 1) = (TX ++ edsT St Ln Up k) ++ ([100, 111, 119, 110, 32] ++ (DK ++ (32 :: (nmF (Ln k) ++ [10]))))) := by unfold Hid; rw [edsT_snoc, hedT.out, List.append_assoc]
            have hlk : Hid ((edsT St Ln Up (k + 1)).length ≤ (k + 1) * 40) := by have := HL.out; unfold Hid; rw [edsT_snoc, hedT.out]; simp only [List.length_append, List.length_cons, List.length_nil]; omega
            have hsk : (TX ++ edsT St Ln Up k).length ≤ 6200000000 := by have := HL.out; have := HTL.out; rw [List.length_append]; omega
            generalize TX ++ edsT St Ln Up k = SK at *
            generalize nmF (Ln k) = NK at *
            have hcatU : ∀ x : List UInt8, (⟨x.toArray⟩ : ByteArray) ++ ⟨#[100, 111, 119, 110, 32]⟩ = ⟨(x ++ [100, 111, 119, 110, 32]).toArray⟩ := fun x => cat_bytes x [100, 111, 119, 110, 32]
            have hs1 : ¬ (9223372036854775807 < SK.length + 5) := by omega
            have HSK := hide hsk
            clear hsk
            have hcat32 : ∀ x : List UInt8, (⟨x.toArray⟩ : ByteArray) ++ ⟨#[32]⟩ = ⟨(x ++ [32]).toArray⟩ := fun x => cat_bytes x [32]
            have hcat10 : ∀ x : List UInt8, (⟨x.toArray⟩ : ByteArray) ++ ⟨#[10]⟩ = ⟨(x ++ [10]).toArray⟩ := fun x => cat_bytes x [10]
            refine wp_region_held_drew (S := fun W => W.cell? ⟨gx, 0, none⟩ = some (.int .i64 (St k : Int)) ∧ W.cell? ⟨gx, 1, none⟩ = some (.int .u8 (Ln k : Int)) ∧ W.cell? ⟨gn, Ln k, none⟩ = some (.string ⟨NK.toArray⟩) ∧ Below w4.heap.size w4 W) (by kernel_rfl) ⟨(by first | exact x0.drew | exact x0 | exact Below.drew x0), (by first | exact x1.drew | exact x1 | exact Below.drew x1), (by first | exact z5.drew | exact z5 | exact Below.drew z5), (by first | exact hb5.drew | exact hb5 | exact Below.drew hb5)⟩ (fun hS0 => ?_)
            clear x0 x1 z5 hb5
            change wpAnyH _ _ _ _ _ 15 #[false, false, false, false, false, false, false, false, false, false, false, false, false, false, false] _ _
            generalize w5.drew = v0 at *
            refine wpAnyH_take (i := 0) (v := ?_) rfl (by kernel_rfl) (by kernel_rfl) (by kernel_rfl) (fun _ _ _ h => h) (Or.inl ⟨by rfl, ?_⟩) hS0 ?_
            rotate_left
            · (intro w hSw; (try dsimp only at hSw); go_simp; try with_reducible rfl)
            simp only [List.getElem_toArray, List.getElem_cons_zero, List.getElem_cons_succ, Act.put, List.setIfInBounds_toArray, List.set_cons_zero, List.set_cons_succ]
            refine wpAnyH_take (i := 1) (v := ?_) rfl (by kernel_rfl) (by kernel_rfl) (by kernel_rfl) (fun _ _ _ h => h) (Or.inl ⟨by rfl, ?_⟩) hS0 ?_
            rotate_left
            · (intro w hSw; (try dsimp only at hSw); go_simp; try with_reducible rfl)
            simp only [List.getElem_toArray, List.getElem_cons_zero, List.getElem_cons_succ, Act.put, List.setIfInBounds_toArray, List.set_cons_zero, List.set_cons_succ]
            refine wpAnyH_take (i := 2) (v := ?_) rfl (by kernel_rfl) (by kernel_rfl) (by kernel_rfl) (fun _ _ _ h => h) (Or.inl ⟨by rfl, ?_⟩) hS0 ?_
            rotate_left
            · (intro w hSw; (try dsimp only at hSw); go_simp; try with_reducible rfl)
            simp only [List.getElem_toArray, List.getElem_cons_zero, List.getElem_cons_succ, Act.put, List.setIfInBounds_toArray, List.set_cons_zero, List.set_cons_succ]
            refine wpAnyH_take (i := 3) (v := ?_) rfl (by kernel_rfl) (by kernel_rfl) (by kernel_rfl) (fun _ _ _ h => h) (Or.inl ⟨by rfl, ?_⟩) hS0 ?_
            rotate_left
            · (intro w hSw; (try dsimp only at hSw); go_simp; try with_reducible rfl)
            simp only [List.getElem_toArray, List.getElem_cons_zero, List.getElem_cons_succ, Act.put, List.setIfInBounds_toArray, List.set_cons_zero, List.set_cons_succ]
            refine wpAnyH_take (i := 4) (v := ?_) rfl (by kernel_rfl) (by kernel_rfl) (by kernel_rfl) (fun _ _ _ h => h) (Or.inl ⟨by rfl, ?_⟩) hS0 ?_
            rotate_left
            · (intro w hSw; (try dsimp only at hSw); go_simp; try with_reducible rfl)
            simp only [List.getElem_toArray, List.getElem_cons_zero, List.getElem_cons_succ, Act.put, List.setIfInBounds_toArray, List.set_cons_zero, List.set_cons_succ]
            refine wpAnyH_take (i := 8) (v := ?_) rfl (by kernel_rfl) (by kernel_rfl) (by kernel_rfl) (fun _ _ _ h => h) (Or.inl ⟨by rfl, ?_⟩) hS0 ?_
            rotate_left
            · (intro w hSw; (try dsimp only at hSw); go_simp; try with_reducible rfl)
            simp only [List.getElem_toArray, List.getElem_cons_zero, List.getElem_cons_succ, Act.put, List.setIfInBounds_toArray, List.set_cons_zero, List.set_cons_succ]
            refine wpAnyH_take (i := 9) (v := ?_) rfl (by kernel_rfl) (by kernel_rfl) (by kernel_rfl) (fun _ _ _ h => h) (Or.inl ⟨by rfl, ?_⟩) hS0 ?_
            rotate_left
            · (intro w hSw; (try dsimp only at hSw); go_simp; try with_reducible rfl)
            simp only [List.getElem_toArray, List.getElem_cons_zero, List.getElem_cons_succ, Act.put, List.setIfInBounds_toArray, List.set_cons_zero, List.set_cons_succ]
            refine wpAnyH_take (i := 10) (v := ?_) rfl (by kernel_rfl) (by kernel_rfl) (by kernel_rfl) (fun _ _ _ h => h) (Or.inl ⟨by rfl, ?_⟩) hS0 ?_
            rotate_left
            · (intro w hSw; (try dsimp only at hSw); go_simp; try with_reducible rfl)
            simp only [List.getElem_toArray, List.getElem_cons_zero, List.getElem_cons_succ, Act.put, List.setIfInBounds_toArray, List.set_cons_zero, List.set_cons_succ]
            refine wpAnyH_take (i := 11) (v := ?_) rfl (by kernel_rfl) (by kernel_rfl) (by kernel_rfl) (fun _ _ _ h => h) (Or.inl ⟨by rfl, ?_⟩) hS0 ?_
            rotate_left
            · (intro w hSw; (try dsimp only at hSw); go_simp; try with_reducible rfl)
            simp only [List.getElem_toArray, List.getElem_cons_zero, List.getElem_cons_succ, Act.put, List.setIfInBounds_toArray, List.set_cons_zero, List.set_cons_succ]
            refine wpAnyH_ready (rs := [5]) (by kernel_rfl) (by simp) ?_
            refine AllReadyH.cons rfl (fun K hK => ?_) AllReadyH.nil
            rw [if_pos (show Region.wanted _ _ = true from by rfl)]
            clear hcat hsz hcatU hcat32 hcat10
            go_simp
            refine (hdk _).mono ?_
            rintro e v1 ⟨rfl, hb1⟩
            have hcat : ∀ x y : List UInt8, (⟨x.toArray⟩ : ByteArray) ++ ⟨y.toArray⟩ = ⟨(x ++ y).toArray⟩ := cat_bytes
            have hsz : ∀ x : List UInt8, (⟨x.toArray⟩ : ByteArray).size = x.length := strS
            have hcat32 : ∀ x : List UInt8, (⟨x.toArray⟩ : ByteArray) ++ ⟨#[32]⟩ = ⟨(x ++ [32]).toArray⟩ := fun x => cat_bytes x [32]
            have hcat10 : ∀ x : List UInt8, (⟨x.toArray⟩ : ByteArray) ++ ⟨#[10]⟩ = ⟨(x ++ [10]).toArray⟩ := fun x => cat_bytes x [10]
            have hsk := HSK.out
            have hs2 : ¬ (9223372036854775807 < SK.length + 5 + DK.length) := by omega
            have hs3 : ¬ (9223372036854775807 < SK.length + (DK.length + 5) + 1) := by omega
            have hs4 : ¬ (9223372036854775807 < SK.length + (DK.length + 6) + NK.length) := by omega
            have hs5 : ¬ (9223372036854775807 < SK.length + (DK.length + (NK.length + 1) + 1 + 1 + 1 + 1 + 1) + 1) := by omega
            clear hsk
            (try go_simp)
            refine hK.out _ _ ⟨(by first | exact hS0.1.below hb1 hS0.1.lt | exact hS0.1.trans (hb1.mono hS0.1.size) | exact hS0.1.trans (hb1.mono (by have := hS0.1.size; omega)) | exact (hb1.cell (cell_lt hS0.1)).trans hS0.1 | exact hS0.1.below hb1 (Nat.le_refl _) | exact hS0.1.low hb1 | exact hS0.1.below hb1 | exact hS0.1.trans (Only.of hb1)), (by first | exact hS0.2.1.below hb1 hS0.2.1.lt | exact hS0.2.1.trans (hb1.mono hS0.2.1.size) | exact hS0.2.1.trans (hb1.mono (by have := hS0.2.1.size; omega)) | exact (hb1.cell (cell_lt hS0.2.1)).trans hS0.2.1 | exact hS0.2.1.below hb1 (Nat.le_refl _) | exact hS0.2.1.low hb1 | exact hS0.2.1.below hb1 | exact hS0.2.1.trans (Only.of hb1)), (by first | exact hS0.2.2.1.below hb1 hS0.2.2.1.lt | exact hS0.2.2.1.trans (hb1.mono hS0.2.2.1.size) | exact hS0.2.2.1.trans (hb1.mono (by have := hS0.2.2.1.size; omega)) | exact (hb1.cell (cell_lt hS0.2.2.1)).trans hS0.2.2.1 | exact hS0.2.2.1.below hb1 (Nat.le_refl _) | exact hS0.2.2.1.low hb1 | exact hS0.2.2.1.below hb1 | exact hS0.2.2.1.trans (Only.of hb1)), (by first | exact hS0.2.2.2.below hb1 hS0.2.2.2.lt | exact hS0.2.2.2.trans (hb1.mono hS0.2.2.2.size) | exact hS0.2.2.2.trans (hb1.mono (by have := hS0.2.2.2.size; omega)) | exact (hb1.cell (cell_lt hS0.2.2.2)).trans hS0.2.2.2 | exact hS0.2.2.2.below hb1 (Nat.le_refl _) | exact hS0.2.2.2.low hb1 | exact hS0.2.2.2.below hb1 | exact hS0.2.2.2.trans (Only.of hb1))⟩ (fun hS1 => ?_)
            clear hK K
            clear hb1 hS0
            simp only [List.getElem_toArray, List.getElem_cons_zero, List.getElem_cons_succ, Act.put, List.setIfInBounds_toArray, List.set_cons_zero, List.set_cons_succ]
            refine wpAnyH_take (i := 6) (v := ?_) rfl (by kernel_rfl) (by kernel_rfl) (by kernel_rfl) (fun _ _ _ h => h) (Or.inl ⟨by rfl, ?_⟩) hS1 ?_
            rotate_left
            · (intro w hSw; (try dsimp only at hSw); go_simp; try with_reducible rfl)
            simp only [List.getElem_toArray, List.getElem_cons_zero, List.getElem_cons_succ, Act.put, List.setIfInBounds_toArray, List.set_cons_zero, List.set_cons_succ]
            refine wpAnyH_take (i := 7) (v := ?_) rfl (by kernel_rfl) (by kernel_rfl) (by kernel_rfl) (fun _ _ _ h => h) (Or.inl ⟨by rfl, ?_⟩) hS1 ?_
            rotate_left
            · (intro w hSw; (try dsimp only at hSw); go_simp; try with_reducible rfl)
            simp only [List.getElem_toArray, List.getElem_cons_zero, List.getElem_cons_succ, Act.put, List.setIfInBounds_toArray, List.set_cons_zero, List.set_cons_succ]
            refine wpAnyH_take (i := 12) (v := ?_) rfl (by kernel_rfl) (by kernel_rfl) (by kernel_rfl) (fun _ _ _ h => h) (Or.inl ⟨by rfl, ?_⟩) hS1 ?_
            rotate_left
            · (intro w hSw; (try dsimp only at hSw); go_simp; try with_reducible rfl)
            simp only [List.getElem_toArray, List.getElem_cons_zero, List.getElem_cons_succ, Act.put, List.setIfInBounds_toArray, List.set_cons_zero, List.set_cons_succ]
            refine wpAnyH_take (i := 13) (v := ?_) rfl (by kernel_rfl) (by kernel_rfl) (by kernel_rfl) (fun _ _ _ h => h) (Or.inl ⟨by rfl, ?_⟩) hS1 ?_
            rotate_left
            · (intro w hSw; (try dsimp only at hSw); go_simp; try with_reducible rfl)
            simp only [List.getElem_toArray, List.getElem_cons_zero, List.getElem_cons_succ, Act.put, List.setIfInBounds_toArray, List.set_cons_zero, List.set_cons_succ]
            refine wpAnyH_take (i := 14) (v := ?_) rfl (by kernel_rfl) (by kernel_rfl) (by kernel_rfl) (fun _ _ _ h => h) (Or.inl ⟨by rfl, ?_⟩) hS1 ?_
            rotate_left
            · (intro w hSw; (try dsimp only at hSw); go_simp; try with_reducible rfl)
            simp only [List.getElem_toArray, List.getElem_cons_zero, List.getElem_cons_succ, Act.put, List.setIfInBounds_toArray, List.set_cons_zero, List.set_cons_succ]
            refine wpAnyH_done (by kernel_rfl) ?_ _
            have x0 := hS1.1
            have x1 := hS1.2.1
            have z5 := hS1.2.2.1
            have hb5 := hS1.2.2.2
            clear hS1
            go_wp2_with fail
            refine ⟨⟨k + 1, by omega, by go_num, by rw [HSN.out]; simp, hlk.out, hb5⟩, ?_⟩
            simp [intOf] <;> omega
        · obtain rfl : k = ne := by omega
          have k5 : wr.cell? ⟨w.heap.size, 5, none⟩ = some (.int .i64 (bud : Int)) := (hbw.cell (cell_lt (HX4.out.cell 5))).trans (HX4.out.cell 5)
          have hdk := fun W => rdec_calls bud W hb63
          have hdkl := decL_len bud
          have HFT : Hid (txT n F l0 l1 l2 F0 F1 F2 k St Ln Up bud = (TX ++ edsT St Ln Up k) ++ (wBudget ++ 32 :: decL bud ++ [10])) := by unfold Hid txT; rw [HT2.out]; simp
          have hsk : (TX ++ edsT St Ln Up k).length ≤ 6200000000 := by have := HL.out; have := HTL.out; rw [List.length_append]; omega
          generalize TX ++ edsT St Ln Up k = SK at *
          generalize decL bud = DK at *
          have hcatB : ∀ x : List UInt8, (⟨x.toArray⟩ : ByteArray) ++ ⟨#[98, 117, 100, 103, 101, 116, 32]⟩ = ⟨(x ++ [98, 117, 100, 103, 101, 116, 32]).toArray⟩ := fun x => cat_bytes x [98, 117, 100, 103, 101, 116, 32]
          have hcat10 : ∀ x : List UInt8, (⟨x.toArray⟩ : ByteArray) ++ ⟨#[10]⟩ = ⟨(x ++ [10]).toArray⟩ := fun x => cat_bytes x [10]
          have hs1 : ¬ (9223372036854775807 < SK.length + 7) := by omega
          have HSK := hide hsk
          clear hsk
          go_wp2_with fail
          refine (hdk _).mono ?_
          clear hdk
          rintro e w5 ⟨rfl, hb5⟩
          have hw5 := hw0.trans (hb5.mono hw0.size)
          have hsk := HSK.out
          have hs2 : ¬ (9223372036854775807 < SK.length + 7 + DK.length) := by omega
          have hs3 : ¬ (9223372036854775807 < SK.length + (DK.length + 1 + 1 + 1 + 1 + 1 + 1 + 1) + 1) := by omega
          have hs4 : ¬ (9223372036854775807 < SK.length + (DK.length + 7) + 1) := by omega
          clear hsk hb5
          go_wp2_with fail
          go_ret
          exact ⟨by rw [HFT.out]; simp [wBudget], hw5⟩
end Go.Proofs.YtdhdknjefjolpaaDoor
end
