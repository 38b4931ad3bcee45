/-
  The texts Co1 of the proof of TopSums, as one file (they are merged by a program).
-/
import Derived.Test.YtplobngbjpgcgaaGreatDoorA17
import Derived.Test.YtplobngbjpgcgaaGreatDoorA9
import Derived.Deep.MidRow
section
/-
  A core as a block; enter.Access at work memory.
-/
namespace Go.Proofs.YtplobngbjpgcgaaGreatDoor
set_option linter.unusedSimpArgs false
set_option linter.unusedVariables false
set_option maxRecDepth 10000
open Go.RowKit Pl
/-- Cells in the middle of a block. -/
def MDL (W : World) (r o : Nat) (cs : List Value) : Prop := W.rangeAt r o cs ∧ r < W.heap.size
theorem MDL.drew {W : World} {r o : Nat} {cs : List Value} (h : MDL W r o cs) : MDL W.drew r o cs := h
theorem MDL.low {W W' : World} {r o : Nat} {cs : List Value} (h : MDL W r o cs) (hb : Below W.heap.size W W') : MDL W' r o cs := ⟨fun j v hv => (hb.cell (p := ⟨r, o + j, none⟩) h.2).trans (h.1 j v hv), Nat.lt_of_lt_of_le h.2 hb.size⟩
theorem MDL.of {W : World} {r o : Nat} {t : TypeId} {bs : Array Value} {cs : List Value} (h : Blk W r t bs) (hc : ∀ j v, cs[j]? = some v → bs[o + j]? = some v) : MDL W r o cs := ⟨fun j v hv => (Blk.cell h (o + j)).trans (hc j v hv), h.lt⟩
theorem whr_wk (x : Nat) : whr (adr 248 x) = 1 := by
  unfold whr
  rw [bnk_adr _ _ (by omega)]
  rfl
theorem adr_wk (x : Nat) : adr 248 x < 2097152 := by unfold adr; omega
set_option maxRecDepth 100000 in
set_option maxHeartbeats 4000000 in
theorem acRead_calls (D : DevA) (A : BusA) (base nr k h a p pc x : Nat) (now cyc left np kind : Int) (F : Nat → Int) (V : Value) (w : World) (hx : x < 65536) (hk : k < 1000) (l1 : 0 < left) (l2 : left ≤ 5000) (t1 : 0 ≤ np) (t2 : np ≤ now) (t3 : now ≤ 10000) (y1 : 0 ≤ cyc) (y2 : cyc ≤ 10000)
    (hB : BusW w D A base now cyc left np nr k h F V) :
    Calls Tryz.prog 83 #[.pointer (some ⟨A.b, 0, none⟩), .agg #[.int .u8 (a : Int), .int .u8 0, .int .u8 0, .int .u8 0, .int .u8 (p : Int), .int .u16 (pc : Int), .int .u8 248, .int .u8 248, .int .u8 248, .int .u8 248, .int .u8 248, .int .u8 248, .int .u8 248, .int .u8 248, .int .u8 0, .bool false], .agg #[.int .u8 kind, .int .u16 (x : Int), .bool false, .int .u8 0]] w fun e w' => e = .returned (.int .u8 (F (x % 8192))) ∧ (∃ V', BusW w' D A base (now + 12) (cyc + 1) (left - 1) now nr (k + 1) h F V') ∧ Below D.l w w' ∧ KeepX D base w w' := by
  have hO : ∀ W, Calls Tryz.prog 124 #[.agg #[.int .u8 248, .int .u8 248, .int .u8 248, .int .u8 248, .int .u8 248, .int .u8 248, .int .u8 248, .int .u8 248], .int .u8 0] W fun e w' => ∃ g, e = .returned (.pointer (some ⟨g, 0, none⟩)) ∧ MB w' g (fun _ => 248) 0 ∧ W.heap.size ≤ g ∧ Below W.heap.size W w' := fun W => mmOf_calls 0 (fun _ => 248) W
  have hPh := fun g W (hM : MB W g (fun _ => 248) 0) => mmPhys_calls g 0 x (fun _ => 248) W hx (fun _ _ => by omega) hM
  have hX1 := whr_wk x
  have hX2 := adr_wk x
  have hX3 : adr 248 x % 8192 = x % 8192 := off_adr _ _
  generalize adr 248 x = P at *
  have hst : Blk ((w.alloc (.cells #[.int .u8 (a : Int), .int .u8 0, .int .u8 0, .int .u8 0, .int .u8 (p : Int), .int .u16 (pc : Int), .int .u8 248, .int .u8 248, .int .u8 248, .int .u8 248, .int .u8 248, .int .u8 248, .int .u8 248, .int .u8 248, .int .u8 0, .bool false] 32)).alloc (.cells #[.int .u8 kind, .int .u16 (x : Int), .bool false, .int .u8 0] 163)) w.heap.size 32 #[.int .u8 (a : Int), .int .u8 0, .int .u8 0, .int .u8 0, .int .u8 (p : Int), .int .u16 (pc : Int), .int .u8 248, .int .u8 248, .int .u8 248, .int .u8 248, .int .u8 248, .int .u8 248, .int .u8 248, .int .u8 248, .int .u8 0, .bool false] := Blk.alloc (Blk.new _ _ _) _
  have hsp : Blk ((w.alloc (.cells #[.int .u8 (a : Int), .int .u8 0, .int .u8 0, .int .u8 0, .int .u8 (p : Int), .int .u16 (pc : Int), .int .u8 248, .int .u8 248, .int .u8 248, .int .u8 248, .int .u8 248, .int .u8 248, .int .u8 248, .int .u8 248, .int .u8 0, .bool false] 32)).alloc (.cells #[.int .u8 kind, .int .u16 (x : Int), .bool false, .int .u8 0] 163)) (w.heap.size + 1) 163 #[.int .u8 kind, .int .u16 (x : Int), .bool false, .int .u8 0] := Blk.newAt (by simp)
  have hba : Below w.heap.size w ((w.alloc (.cells #[.int .u8 (a : Int), .int .u8 0, .int .u8 0, .int .u8 0, .int .u8 (p : Int), .int .u16 (pc : Int), .int .u8 248, .int .u8 248, .int .u8 248, .int .u8 248, .int .u8 248, .int .u8 248, .int .u8 248, .int .u8 248, .int .u8 0, .bool false] 32)).alloc (.cells #[.int .u8 kind, .int .u16 (x : Int), .bool false, .int .u8 0] 163)) := Bl.alloc (Bl.alloc (Below.refl _ _) _) _
  have hB1 := hB.low hba
  have hwD : D.l ≤ w.heap.size := by have h1 := hB.o; have h2 := hB.lp; omega
  clear hB
  go_enter Tryz.func83, Tryz.ntmps83
  go_wp2_with fail
  generalize (w.alloc (.cells #[.int .u8 (a : Int), .int .u8 0, .int .u8 0, .int .u8 0, .int .u8 (p : Int), .int .u16 (pc : Int), .int .u8 248, .int .u8 248, .int .u8 248, .int .u8 248, .int .u8 248, .int .u8 248, .int .u8 248, .int .u8 248, .int .u8 0, .bool false] 32)).alloc (.cells #[.int .u8 kind, .int .u16 (x : Int), .bool false, .int .u8 0] 163) = w1 at *
  generalize w.heap.size + 1 = gp at *
  obtain ⟨gs, hgs⟩ : ∃ x, w.heap.size = x := ⟨_, rfl⟩
  rw [hgs] at hst ⊢
  have hmd : MDL w1 gs 6 [Value.int .u8 248, Value.int .u8 248, Value.int .u8 248, Value.int .u8 248, Value.int .u8 248, Value.int .u8 248, Value.int .u8 248, Value.int .u8 248] := MDL.of hst (fun j v hj => by
    match j, hj with
    | 0, hj | 1, hj | 2, hj | 3, hj | 4, hj | 5, hj | 6, hj | 7, hj => exact hj
    | j + 8, hj => simp at hj)
  have c14 : w1.cell? ⟨gs, 14, none⟩ = some (.int .u8 0) := Blk.cell hst 14
  have c1 : w1.cell? ⟨gp, 1, none⟩ = some (.int .u16 (x : Int)) := Blk.cell hsp 1
  refine wp_region_held_drew (S := fun W => MDL W gs 6 [Value.int .u8 248, Value.int .u8 248, Value.int .u8 248, Value.int .u8 248, Value.int .u8 248, Value.int .u8 248, Value.int .u8 248, Value.int .u8 248] ∧ W.cell? ⟨gs, 14, none⟩ = some (.int .u8 0) ∧ W.cell? ⟨gp, 1, none⟩ = some (.int .u16 (x : Int)) ∧ Blk W gp 163 #[.int .u8 kind, .int .u16 (x : Int), .bool false, .int .u8 0] ∧ BusW W D A base now cyc left np nr k h F V ∧ Below w.heap.size w W) (by kernel_rfl) ⟨(by first | exact hmd.drew | exact hmd | exact Below.drew hmd), (by first | exact c14.drew | exact c14 | exact Below.drew c14), (by first | exact c1.drew | exact c1 | exact Below.drew c1), (by first | exact hsp.drew | exact hsp | exact Below.drew hsp), (by first | exact hB1.drew | exact hB1 | exact Below.drew hB1), (by first | exact hba.drew | exact hba | exact Below.drew hba)⟩ (fun hS0 => ?_)
  clear hmd c14 c1 hsp hB1 hba
  change wpAnyH _ _ _ _ _ 9 #[false, false, false, false, false, false, false, false, false] _ _
  generalize w1.drew = v0 at *
  refine wpAnyH_take (i := 0) (v := ?_) rfl (by kernel_rfl) (by kernel_rfl) (by kernel_rfl) (fun _ _ _ h => h) (Or.inl ⟨by rfl, ?_⟩) hS0 ?_
  rotate_left
  · (intro w hSw; (try dsimp only at hSw); go_simp; try with_reducible rfl)
  simp only [List.getElem_toArray, List.getElem_cons_zero, List.getElem_cons_succ, Act.put, List.setIfInBounds_toArray, List.set_cons_zero, List.set_cons_succ]
  refine wpAnyH_take (i := 1) (v := .agg ([Value.int .u8 248, Value.int .u8 248, Value.int .u8 248, Value.int .u8 248, Value.int .u8 248, Value.int .u8 248, Value.int .u8 248, Value.int .u8 248] : List Value).toArray) rfl (by kernel_rfl) (by kernel_rfl) (by kernel_rfl) (fun _ _ _ h => h) (yieldsIf_load_mid (by rfl) 30 _ rfl gs 6 rfl [Value.int .u8 248, Value.int .u8 248, Value.int .u8 248, Value.int .u8 248, Value.int .u8 248, Value.int .u8 248, Value.int .u8 248, Value.int .u8 248] _ (fun _ h => (h.1).1) Tryz.underlying30 rfl (by kernel_rfl)) hS0 ?_
  simp only [List.getElem_toArray, List.getElem_cons_zero, List.getElem_cons_succ, Act.put, List.setIfInBounds_toArray, List.set_cons_zero, List.set_cons_succ]
  refine wpAnyH_take (i := 2) (v := ?_) rfl (by kernel_rfl) (by kernel_rfl) (by kernel_rfl) (fun _ _ _ h => h) (Or.inl ⟨by rfl, ?_⟩) hS0 ?_
  rotate_left
  · (intro w hSw; (try dsimp only at hSw); go_simp; try with_reducible rfl)
  simp only [List.getElem_toArray, List.getElem_cons_zero, List.getElem_cons_succ, Act.put, List.setIfInBounds_toArray, List.set_cons_zero, List.set_cons_succ]
  refine wpAnyH_take (i := 3) (v := ?_) rfl (by kernel_rfl) (by kernel_rfl) (by kernel_rfl) (fun _ _ _ h => h) (Or.inl ⟨by rfl, ?_⟩) hS0 ?_
  rotate_left
  · (intro w hSw; (try dsimp only at hSw); go_simp; try with_reducible rfl)
  simp only [List.getElem_toArray, List.getElem_cons_zero, List.getElem_cons_succ, Act.put, List.setIfInBounds_toArray, List.set_cons_zero, List.set_cons_succ]
  refine wpAnyH_take (i := 5) (v := ?_) rfl (by kernel_rfl) (by kernel_rfl) (by kernel_rfl) (fun _ _ _ h => h) (Or.inl ⟨by rfl, ?_⟩) hS0 ?_
  rotate_left
  · (intro w hSw; (try dsimp only at hSw); go_simp; try with_reducible rfl)
  simp only [List.getElem_toArray, List.getElem_cons_zero, List.getElem_cons_succ, Act.put, List.setIfInBounds_toArray, List.set_cons_zero, List.set_cons_succ]
  refine wpAnyH_take (i := 6) (v := ?_) rfl (by kernel_rfl) (by kernel_rfl) (by kernel_rfl) (fun _ _ _ h => h) (Or.inl ⟨by rfl, ?_⟩) hS0 ?_
  rotate_left
  · (intro w hSw; (try dsimp only at hSw); go_simp; try with_reducible rfl)
  simp only [List.getElem_toArray, List.getElem_cons_zero, List.getElem_cons_succ, Act.put, List.setIfInBounds_toArray, List.set_cons_zero, List.set_cons_succ]
  refine wpAnyH_ready (rs := [4]) (by kernel_rfl) (by simp) ?_
  refine AllReadyH.cons rfl (fun K hK => ?_) AllReadyH.nil
  go_simp
  refine (hO _).mono ?_
  rintro e v1 ⟨m, rfl, hM, hge, hb1⟩
  (try go_simp)
  refine hK.out _ _ ⟨(by first | exact hS0.1.low hb1 | exact hS0.1.below hb1 (Nat.le_refl _)), ((hb1.cell (cell_lt hS0.2.1)).trans hS0.2.1), ((hb1.cell (cell_lt hS0.2.2.1)).trans hS0.2.2.1), (hS0.2.2.2.1.below hb1 hS0.2.2.2.1.lt), (by first | exact hS0.2.2.2.2.1.below hb1 hS0.2.2.2.2.1.lt | exact hS0.2.2.2.2.1.trans (hb1.mono hS0.2.2.2.2.1.size) | exact hS0.2.2.2.2.1.trans (hb1.mono (by have := hS0.2.2.2.2.1.size; omega)) | exact (hb1.cell (cell_lt hS0.2.2.2.2.1)).trans hS0.2.2.2.2.1 | exact hS0.2.2.2.2.1.below hb1 (Nat.le_refl _) | exact hS0.2.2.2.2.1.low hb1 | exact hS0.2.2.2.2.1.below hb1 | exact hS0.2.2.2.2.1.trans (Only.of hb1)), (by first | exact hS0.2.2.2.2.2.trans (hb1.mono hS0.2.2.2.2.2.size) | exact hS0.2.2.2.2.2.trans (hb1.mono (by have := hS0.2.2.2.2.2.size; omega)))⟩ (fun hS1 => ?_)
  clear hK K
  have hT : MDL v1 gs 6 [Value.int .u8 248, Value.int .u8 248, Value.int .u8 248, Value.int .u8 248, Value.int .u8 248, Value.int .u8 248, Value.int .u8 248, Value.int .u8 248] ∧ v1.cell? ⟨gs, 14, none⟩ = some (.int .u8 0) ∧ v1.cell? ⟨gp, 1, none⟩ = some (.int .u16 (x : Int)) ∧ Blk v1 gp 163 #[.int .u8 kind, .int .u16 (x : Int), .bool false, .int .u8 0] ∧ BusW v1 D A base now cyc left np nr k h F V ∧ Below w.heap.size w v1 ∧ MB v1 m (fun _ => 248) 0 := ⟨hS1.1, hS1.2.1, hS1.2.2.1, hS1.2.2.2.1, hS1.2.2.2.2.1, hS1.2.2.2.2.2, hM⟩
  refine wpAnyH_mono (S' := fun W => MDL W gs 6 [Value.int .u8 248, Value.int .u8 248, Value.int .u8 248, Value.int .u8 248, Value.int .u8 248, Value.int .u8 248, Value.int .u8 248, Value.int .u8 248] ∧ W.cell? ⟨gs, 14, none⟩ = some (.int .u8 0) ∧ W.cell? ⟨gp, 1, none⟩ = some (.int .u16 (x : Int)) ∧ Blk W gp 163 #[.int .u8 kind, .int .u16 (x : Int), .bool false, .int .u8 0] ∧ BusW W D A base now cyc left np nr k h F V ∧ Below w.heap.size w W ∧ MB W m (fun _ => 248) 0) (fun _ h => ⟨h.1, h.2.1, h.2.2.1, h.2.2.2.1, h.2.2.2.2.1, h.2.2.2.2.2.1⟩) ?_
  clear hS1
  have hS1 := hT
  clear hT
  clear hb1 hS0
  simp only [List.getElem_toArray, List.getElem_cons_zero, List.getElem_cons_succ, Act.put, List.setIfInBounds_toArray, List.set_cons_zero, List.set_cons_succ]
  refine wpAnyH_ready (rs := [7]) (by kernel_rfl) (by simp) ?_
  refine AllReadyH.cons rfl (fun K hK => ?_) AllReadyH.nil
  go_simp
  refine (hPh m _ hS1.2.2.2.2.2.2).mono ?_
  rintro e v2 ⟨rfl, hb2⟩
  (try go_simp)
  refine hK.out _ _ ⟨(by first | exact hS1.1.low hb2 | exact hS1.1.below hb2 (Nat.le_refl _)), ((hb2.cell (cell_lt hS1.2.1)).trans hS1.2.1), ((hb2.cell (cell_lt hS1.2.2.1)).trans hS1.2.2.1), (hS1.2.2.2.1.below hb2 hS1.2.2.2.1.lt), (by first | exact hS1.2.2.2.2.1.below hb2 hS1.2.2.2.2.1.lt | exact hS1.2.2.2.2.1.trans (hb2.mono hS1.2.2.2.2.1.size) | exact hS1.2.2.2.2.1.trans (hb2.mono (by have := hS1.2.2.2.2.1.size; omega)) | exact (hb2.cell (cell_lt hS1.2.2.2.2.1)).trans hS1.2.2.2.2.1 | exact hS1.2.2.2.2.1.below hb2 (Nat.le_refl _) | exact hS1.2.2.2.2.1.low hb2 | exact hS1.2.2.2.2.1.below hb2 | exact hS1.2.2.2.2.1.trans (Only.of hb2)), (by first | exact hS1.2.2.2.2.2.1.trans (hb2.mono hS1.2.2.2.2.2.1.size) | exact hS1.2.2.2.2.2.1.trans (hb2.mono (by have := hS1.2.2.2.2.2.1.size; omega))), (by first | exact hS1.2.2.2.2.2.2.below hb2 hS1.2.2.2.2.2.2.lt | exact hS1.2.2.2.2.2.2.trans (hb2.mono hS1.2.2.2.2.2.2.size) | exact hS1.2.2.2.2.2.2.trans (hb2.mono (by have := hS1.2.2.2.2.2.2.size; omega)) | exact (hb2.cell (cell_lt hS1.2.2.2.2.2.2)).trans hS1.2.2.2.2.2.2 | exact hS1.2.2.2.2.2.2.below hb2 (Nat.le_refl _) | exact hS1.2.2.2.2.2.2.low hb2 | exact hS1.2.2.2.2.2.2.below hb2 | exact hS1.2.2.2.2.2.2.trans (Only.of hb2))⟩ (fun hS2 => ?_)
  clear hK K
  clear hb2 hS1
  simp only [List.getElem_toArray, List.getElem_cons_zero, List.getElem_cons_succ, Act.put, List.setIfInBounds_toArray, List.set_cons_zero, List.set_cons_succ]
  refine wpAnyH_take (i := 8) (v := ?_) rfl (by kernel_rfl) (by kernel_rfl) (by kernel_rfl) (fun _ _ _ h => h) (Or.inl ⟨by rfl, ?_⟩) hS2 ?_
  rotate_left
  · (intro w hSw; (try dsimp only at hSw); go_simp; try with_reducible rfl)
  simp only [List.getElem_toArray, List.getElem_cons_zero, List.getElem_cons_succ, Act.put, List.setIfInBounds_toArray, List.set_cons_zero, List.set_cons_succ]
  refine wpAnyH_done (by kernel_rfl) ?_ _
  have hmd := hS2.1
  have c14 := hS2.2.1
  have c1 := hS2.2.2.1
  have hsp := hS2.2.2.2.1
  have hB1 := hS2.2.2.2.2.1
  have hba := hS2.2.2.2.2.2.1
  have hM := hS2.2.2.2.2.2.2
  clear hS2
  have c2 : v2.cell? ⟨gp, 2, none⟩ = some (.bool false) := Blk.cell hsp 2
  have c0 : v2.cell? ⟨gp, 0, none⟩ = some (.int .u8 kind) := Blk.cell hsp 0
  have c3 : v2.cell? ⟨gp, 3, none⟩ = some (.int .u8 0) := Blk.cell hsp 3
  have hLb : Below D.l w v2 := hba.mono hwD
  have hKb : KeepX D base w v2 := KeepX.low hba
  clear c1 c14 hmd hsp hM hst hba
  go_wp2_with fail
  have hrd := bsRead_ram D A base nr k h P now cyc left np kind F V _ hX2 hX1 hk l1 l2 t1 t2 t3 y1 y2 hB1
  rw [hX3] at hrd
  refine hrd.mono ?_
  clear hrd
  rintro e w9 ⟨rfl, ⟨V', hB9⟩, hL9, hK9⟩
  go_wp2_with fail
  go_ret
  exact ⟨rfl, ⟨V', hB9⟩, hLb.trans hL9, hKb.trans hK9⟩
set_option maxRecDepth 100000 in
set_option maxHeartbeats 4000000 in
theorem acWrite_calls (D : DevA) (A : BusA) (base nr k h a p pc x : Nat) (now cyc left np kind v : Int) (F : Nat → Int) (V : Value) (w : World) (hx : x < 65536) (hk : k < 1000) (hn : nr < 100000) (l1 : 0 < left) (l2 : left ≤ 5000) (t1 : 0 ≤ np) (t2 : np ≤ now) (t3 : now ≤ 10000) (y1 : 0 ≤ cyc) (y2 : cyc ≤ 10000)
    (hB : BusW w D A base now cyc left np nr k h F V) :
    Calls Tryz.prog 83 #[.pointer (some ⟨A.b, 0, none⟩), .agg #[.int .u8 (a : Int), .int .u8 0, .int .u8 0, .int .u8 0, .int .u8 (p : Int), .int .u16 (pc : Int), .int .u8 248, .int .u8 248, .int .u8 248, .int .u8 248, .int .u8 248, .int .u8 248, .int .u8 248, .int .u8 248, .int .u8 0, .bool false], .agg #[.int .u8 kind, .int .u16 (x : Int), .bool true, .int .u8 v]] w fun e w' => e = .returned (.int .u8 0) ∧ (∃ V', BusW w' D A base (now + 12) (cyc + 1) (left - 1) now (nr + 1) (k + 1) h (updF F (x % 8192) v) V') ∧ Below D.l w w' ∧ KeepX D base w w' := by
  have hO : ∀ W, Calls Tryz.prog 124 #[.agg #[.int .u8 248, .int .u8 248, .int .u8 248, .int .u8 248, .int .u8 248, .int .u8 248, .int .u8 248, .int .u8 248], .int .u8 0] W fun e w' => ∃ g, e = .returned (.pointer (some ⟨g, 0, none⟩)) ∧ MB w' g (fun _ => 248) 0 ∧ W.heap.size ≤ g ∧ Below W.heap.size W w' := fun W => mmOf_calls 0 (fun _ => 248) W
  have hPh := fun g W (hM : MB W g (fun _ => 248) 0) => mmPhys_calls g 0 x (fun _ => 248) W hx (fun _ _ => by omega) hM
  have hX1 := whr_wk x
  have hX2 := adr_wk x
  have hX3 : adr 248 x % 8192 = x % 8192 := off_adr _ _
  generalize adr 248 x = P at *
  have hst : Blk ((w.alloc (.cells #[.int .u8 (a : Int), .int .u8 0, .int .u8 0, .int .u8 0, .int .u8 (p : Int), .int .u16 (pc : Int), .int .u8 248, .int .u8 248, .int .u8 248, .int .u8 248, .int .u8 248, .int .u8 248, .int .u8 248, .int .u8 248, .int .u8 0, .bool false] 32)).alloc (.cells #[.int .u8 kind, .int .u16 (x : Int), .bool true, .int .u8 v] 163)) w.heap.size 32 #[.int .u8 (a : Int), .int .u8 0, .int .u8 0, .int .u8 0, .int .u8 (p : Int), .int .u16 (pc : Int), .int .u8 248, .int .u8 248, .int .u8 248, .int .u8 248, .int .u8 248, .int .u8 248, .int .u8 248, .int .u8 248, .int .u8 0, .bool false] := Blk.alloc (Blk.new _ _ _) _
  have hsp : Blk ((w.alloc (.cells #[.int .u8 (a : Int), .int .u8 0, .int .u8 0, .int .u8 0, .int .u8 (p : Int), .int .u16 (pc : Int), .int .u8 248, .int .u8 248, .int .u8 248, .int .u8 248, .int .u8 248, .int .u8 248, .int .u8 248, .int .u8 248, .int .u8 0, .bool false] 32)).alloc (.cells #[.int .u8 kind, .int .u16 (x : Int), .bool true, .int .u8 v] 163)) (w.heap.size + 1) 163 #[.int .u8 kind, .int .u16 (x : Int), .bool true, .int .u8 v] := Blk.newAt (by simp)
  have hba : Below w.heap.size w ((w.alloc (.cells #[.int .u8 (a : Int), .int .u8 0, .int .u8 0, .int .u8 0, .int .u8 (p : Int), .int .u16 (pc : Int), .int .u8 248, .int .u8 248, .int .u8 248, .int .u8 248, .int .u8 248, .int .u8 248, .int .u8 248, .int .u8 248, .int .u8 0, .bool false] 32)).alloc (.cells #[.int .u8 kind, .int .u16 (x : Int), .bool true, .int .u8 v] 163)) := Bl.alloc (Bl.alloc (Below.refl _ _) _) _
  have hB1 := hB.low hba
  have hwD : D.l ≤ w.heap.size := by have h1 := hB.o; have h2 := hB.lp; omega
  clear hB
  go_enter Tryz.func83, Tryz.ntmps83
  go_wp2_with fail
  generalize (w.alloc (.cells #[.int .u8 (a : Int), .int .u8 0, .int .u8 0, .int .u8 0, .int .u8 (p : Int), .int .u16 (pc : Int), .int .u8 248, .int .u8 248, .int .u8 248, .int .u8 248, .int .u8 248, .int .u8 248, .int .u8 248, .int .u8 248, .int .u8 0, .bool false] 32)).alloc (.cells #[.int .u8 kind, .int .u16 (x : Int), .bool true, .int .u8 v] 163) = w1 at *
  generalize w.heap.size + 1 = gp at *
  obtain ⟨gs, hgs⟩ : ∃ x, w.heap.size = x := ⟨_, rfl⟩
  rw [hgs] at hst ⊢
  have hmd : MDL w1 gs 6 [Value.int .u8 248, Value.int .u8 248, Value.int .u8 248, Value.int .u8 248, Value.int .u8 248, Value.int .u8 248, Value.int .u8 248, Value.int .u8 248] := MDL.of hst (fun j v hj => by
    match j, hj with
    | 0, hj | 1, hj | 2, hj | 3, hj | 4, hj | 5, hj | 6, hj | 7, hj => exact hj
    | j + 8, hj => simp at hj)
  have c14 : w1.cell? ⟨gs, 14, none⟩ = some (.int .u8 0) := Blk.cell hst 14
  have c1 : w1.cell? ⟨gp, 1, none⟩ = some (.int .u16 (x : Int)) := Blk.cell hsp 1
  refine wp_region_held_drew (S := fun W => MDL W gs 6 [Value.int .u8 248, Value.int .u8 248, Value.int .u8 248, Value.int .u8 248, Value.int .u8 248, Value.int .u8 248, Value.int .u8 248, Value.int .u8 248] ∧ W.cell? ⟨gs, 14, none⟩ = some (.int .u8 0) ∧ W.cell? ⟨gp, 1, none⟩ = some (.int .u16 (x : Int)) ∧ Blk W gp 163 #[.int .u8 kind, .int .u16 (x : Int), .bool true, .int .u8 v] ∧ BusW W D A base now cyc left np nr k h F V ∧ Below w.heap.size w W) (by kernel_rfl) ⟨(by first | exact hmd.drew | exact hmd | exact Below.drew hmd), (by first | exact c14.drew | exact c14 | exact Below.drew c14), (by first | exact c1.drew | exact c1 | exact Below.drew c1), (by first | exact hsp.drew | exact hsp | exact Below.drew hsp), (by first | exact hB1.drew | exact hB1 | exact Below.drew hB1), (by first | exact hba.drew | exact hba | exact Below.drew hba)⟩ (fun hS0 => ?_)
  clear hmd c14 c1 hsp hB1 hba
  change wpAnyH _ _ _ _ _ 9 #[false, false, false, false, false, false, false, false, false] _ _
  generalize w1.drew = v0 at *
  refine wpAnyH_take (i := 0) (v := ?_) rfl (by kernel_rfl) (by kernel_rfl) (by kernel_rfl) (fun _ _ _ h => h) (Or.inl ⟨by rfl, ?_⟩) hS0 ?_
  rotate_left
  · (intro w hSw; (try dsimp only at hSw); go_simp; try with_reducible rfl)
  simp only [List.getElem_toArray, List.getElem_cons_zero, List.getElem_cons_succ, Act.put, List.setIfInBounds_toArray, List.set_cons_zero, List.set_cons_succ]
  refine wpAnyH_take (i := 1) (v := .agg ([Value.int .u8 248, Value.int .u8 248, Value.int .u8 248, Value.int .u8 248, Value.int .u8 248, Value.int .u8 248, Value.int .u8 248, Value.int .u8 248] : List Value).toArray) rfl (by kernel_rfl) (by kernel_rfl) (by kernel_rfl) (fun _ _ _ h => h) (yieldsIf_load_mid (by rfl) 30 _ rfl gs 6 rfl [Value.int .u8 248, Value.int .u8 248, Value.int .u8 248, Value.int .u8 248, Value.int .u8 248, Value.int .u8 248, Value.int .u8 248, Value.int .u8 248] _ (fun _ h => (h.1).1) Tryz.underlying30 rfl (by kernel_rfl)) hS0 ?_
  simp only [List.getElem_toArray, List.getElem_cons_zero, List.getElem_cons_succ, Act.put, List.setIfInBounds_toArray, List.set_cons_zero, List.set_cons_succ]
  refine wpAnyH_take (i := 2) (v := ?_) rfl (by kernel_rfl) (by kernel_rfl) (by kernel_rfl) (fun _ _ _ h => h) (Or.inl ⟨by rfl, ?_⟩) hS0 ?_
  rotate_left
  · (intro w hSw; (try dsimp only at hSw); go_simp; try with_reducible rfl)
  simp only [List.getElem_toArray, List.getElem_cons_zero, List.getElem_cons_succ, Act.put, List.setIfInBounds_toArray, List.set_cons_zero, List.set_cons_succ]
  refine wpAnyH_take (i := 3) (v := ?_) rfl (by kernel_rfl) (by kernel_rfl) (by kernel_rfl) (fun _ _ _ h => h) (Or.inl ⟨by rfl, ?_⟩) hS0 ?_
  rotate_left
  · (intro w hSw; (try dsimp only at hSw); go_simp; try with_reducible rfl)
  simp only [List.getElem_toArray, List.getElem_cons_zero, List.getElem_cons_succ, Act.put, List.setIfInBounds_toArray, List.set_cons_zero, List.set_cons_succ]
  refine wpAnyH_take (i := 5) (v := ?_) rfl (by kernel_rfl) (by kernel_rfl) (by kernel_rfl) (fun _ _ _ h => h) (Or.inl ⟨by rfl, ?_⟩) hS0 ?_
  rotate_left
  · (intro w hSw; (try dsimp only at hSw); go_simp; try with_reducible rfl)
  simp only [List.getElem_toArray, List.getElem_cons_zero, List.getElem_cons_succ, Act.put, List.setIfInBounds_toArray, List.set_cons_zero, List.set_cons_succ]
  refine wpAnyH_take (i := 6) (v := ?_) rfl (by kernel_rfl) (by kernel_rfl) (by kernel_rfl) (fun _ _ _ h => h) (Or.inl ⟨by rfl, ?_⟩) hS0 ?_
  rotate_left
  · (intro w hSw; (try dsimp only at hSw); go_simp; try with_reducible rfl)
  simp only [List.getElem_toArray, List.getElem_cons_zero, List.getElem_cons_succ, Act.put, List.setIfInBounds_toArray, List.set_cons_zero, List.set_cons_succ]
  refine wpAnyH_ready (rs := [4]) (by kernel_rfl) (by simp) ?_
  refine AllReadyH.cons rfl (fun K hK => ?_) AllReadyH.nil
  go_simp
  refine (hO _).mono ?_
  rintro e v1 ⟨m, rfl, hM, hge, hb1⟩
  (try go_simp)
  refine hK.out _ _ ⟨(by first | exact hS0.1.low hb1 | exact hS0.1.below hb1 (Nat.le_refl _)), ((hb1.cell (cell_lt hS0.2.1)).trans hS0.2.1), ((hb1.cell (cell_lt hS0.2.2.1)).trans hS0.2.2.1), (hS0.2.2.2.1.below hb1 hS0.2.2.2.1.lt), (by first | exact hS0.2.2.2.2.1.below hb1 hS0.2.2.2.2.1.lt | exact hS0.2.2.2.2.1.trans (hb1.mono hS0.2.2.2.2.1.size) | exact hS0.2.2.2.2.1.trans (hb1.mono (by have := hS0.2.2.2.2.1.size; omega)) | exact (hb1.cell (cell_lt hS0.2.2.2.2.1)).trans hS0.2.2.2.2.1 | exact hS0.2.2.2.2.1.below hb1 (Nat.le_refl _) | exact hS0.2.2.2.2.1.low hb1 | exact hS0.2.2.2.2.1.below hb1 | exact hS0.2.2.2.2.1.trans (Only.of hb1)), (by first | exact hS0.2.2.2.2.2.trans (hb1.mono hS0.2.2.2.2.2.size) | exact hS0.2.2.2.2.2.trans (hb1.mono (by have := hS0.2.2.2.2.2.size; omega)))⟩ (fun hS1 => ?_)
  clear hK K
  have hT : MDL v1 gs 6 [Value.int .u8 248, Value.int .u8 248, Value.int .u8 248, Value.int .u8 248, Value.int .u8 248, Value.int .u8 248, Value.int .u8 248, Value.int .u8 248] ∧ v1.cell? ⟨gs, 14, none⟩ = some (.int .u8 0) ∧ v1.cell? ⟨gp, 1, none⟩ = some (.int .u16 (x : Int)) ∧ Blk v1 gp 163 #[.int .u8 kind, .int .u16 (x : Int), .bool true, .int .u8 v] ∧ BusW v1 D A base now cyc left np nr k h F V ∧ Below w.heap.size w v1 ∧ MB v1 m (fun _ => 248) 0 := ⟨hS1.1, hS1.2.1, hS1.2.2.1, hS1.2.2.2.1, hS1.2.2.2.2.1, hS1.2.2.2.2.2, hM⟩
  refine wpAnyH_mono (S' := fun W => MDL W gs 6 [Value.int .u8 248, Value.int .u8 248, Value.int .u8 248, Value.int .u8 248, Value.int .u8 248, Value.int .u8 248, Value.int .u8 248, Value.int .u8 248] ∧ W.cell? ⟨gs, 14, none⟩ = some (.int .u8 0) ∧ W.cell? ⟨gp, 1, none⟩ = some (.int .u16 (x : Int)) ∧ Blk W gp 163 #[.int .u8 kind, .int .u16 (x : Int), .bool true, .int .u8 v] ∧ BusW W D A base now cyc left np nr k h F V ∧ Below w.heap.size w W ∧ MB W m (fun _ => 248) 0) (fun _ h => ⟨h.1, h.2.1, h.2.2.1, h.2.2.2.1, h.2.2.2.2.1, h.2.2.2.2.2.1⟩) ?_
  clear hS1
  have hS1 := hT
  clear hT
  clear hb1 hS0
  simp only [List.getElem_toArray, List.getElem_cons_zero, List.getElem_cons_succ, Act.put, List.setIfInBounds_toArray, List.set_cons_zero, List.set_cons_succ]
  refine wpAnyH_ready (rs := [7]) (by kernel_rfl) (by simp) ?_
  refine AllReadyH.cons rfl (fun K hK => ?_) AllReadyH.nil
  go_simp
  refine (hPh m _ hS1.2.2.2.2.2.2).mono ?_
  rintro e v2 ⟨rfl, hb2⟩
  (try go_simp)
  refine hK.out _ _ ⟨(by first | exact hS1.1.low hb2 | exact hS1.1.below hb2 (Nat.le_refl _)), ((hb2.cell (cell_lt hS1.2.1)).trans hS1.2.1), ((hb2.cell (cell_lt hS1.2.2.1)).trans hS1.2.2.1), (hS1.2.2.2.1.below hb2 hS1.2.2.2.1.lt), (by first | exact hS1.2.2.2.2.1.below hb2 hS1.2.2.2.2.1.lt | exact hS1.2.2.2.2.1.trans (hb2.mono hS1.2.2.2.2.1.size) | exact hS1.2.2.2.2.1.trans (hb2.mono (by have := hS1.2.2.2.2.1.size; omega)) | exact (hb2.cell (cell_lt hS1.2.2.2.2.1)).trans hS1.2.2.2.2.1 | exact hS1.2.2.2.2.1.below hb2 (Nat.le_refl _) | exact hS1.2.2.2.2.1.low hb2 | exact hS1.2.2.2.2.1.below hb2 | exact hS1.2.2.2.2.1.trans (Only.of hb2)), (by first | exact hS1.2.2.2.2.2.1.trans (hb2.mono hS1.2.2.2.2.2.1.size) | exact hS1.2.2.2.2.2.1.trans (hb2.mono (by have := hS1.2.2.2.2.2.1.size; omega))), (by first | exact hS1.2.2.2.2.2.2.below hb2 hS1.2.2.2.2.2.2.lt | exact hS1.2.2.2.2.2.2.trans (hb2.mono hS1.2.2.2.2.2.2.size) | exact hS1.2.2.2.2.2.2.trans (hb2.mono (by have := hS1.2.2.2.2.2.2.size; omega)) | exact (hb2.cell (cell_lt hS1.2.2.2.2.2.2)).trans hS1.2.2.2.2.2.2 | exact hS1.2.2.2.2.2.2.below hb2 (Nat.le_refl _) | exact hS1.2.2.2.2.2.2.low hb2 | exact hS1.2.2.2.2.2.2.below hb2 | exact hS1.2.2.2.2.2.2.trans (Only.of hb2))⟩ (fun hS2 => ?_)
  clear hK K
  clear hb2 hS1
  simp only [List.getElem_toArray, List.getElem_cons_zero, List.getElem_cons_succ, Act.put, List.setIfInBounds_toArray, List.set_cons_zero, List.set_cons_succ]
  refine wpAnyH_take (i := 8) (v := ?_) rfl (by kernel_rfl) (by kernel_rfl) (by kernel_rfl) (fun _ _ _ h => h) (Or.inl ⟨by rfl, ?_⟩) hS2 ?_
  rotate_left
  · (intro w hSw; (try dsimp only at hSw); go_simp; try with_reducible rfl)
  simp only [List.getElem_toArray, List.getElem_cons_zero, List.getElem_cons_succ, Act.put, List.setIfInBounds_toArray, List.set_cons_zero, List.set_cons_succ]
  refine wpAnyH_done (by kernel_rfl) ?_ _
  have hmd := hS2.1
  have c14 := hS2.2.1
  have c1 := hS2.2.2.1
  have hsp := hS2.2.2.2.1
  have hB1 := hS2.2.2.2.2.1
  have hba := hS2.2.2.2.2.2.1
  have hM := hS2.2.2.2.2.2.2
  clear hS2
  have c2 : v2.cell? ⟨gp, 2, none⟩ = some (.bool true) := Blk.cell hsp 2
  have c0 : v2.cell? ⟨gp, 0, none⟩ = some (.int .u8 kind) := Blk.cell hsp 0
  have c3 : v2.cell? ⟨gp, 3, none⟩ = some (.int .u8 v) := Blk.cell hsp 3
  have hLb : Below D.l w v2 := hba.mono hwD
  have hKb : KeepX D base w v2 := KeepX.low hba
  clear c1 c14 hmd hsp hM hst hba
  go_wp2_with fail
  refine (bsWrite_ram D A base nr k h P now cyc left np v kind F V _ hX2 hX1 hn hk l1 l2 t1 t2 t3 y1 y2 hB1).mono ?_
  rintro e w9 ⟨rfl, ⟨V', hB9⟩, hL9, hK9⟩
  rw [hX3] at hB9
  go_wp2_with fail
  go_ret
  exact ⟨rfl, ⟨V', hB9⟩, hLb.trans hL9, hKb.trans hK9⟩
end Go.Proofs.YtplobngbjpgcgaaGreatDoor
end
