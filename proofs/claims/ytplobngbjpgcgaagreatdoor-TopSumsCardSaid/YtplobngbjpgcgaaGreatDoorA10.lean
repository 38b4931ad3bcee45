/-
  The texts Hard of the proof of TopSums, as one file (they are merged by a program).
-/
import Derived.Test.YtplobngbjpgcgaaGreatDoorA6
import Derived.Test.YtplobngbjpgcgaaGreatDoorA7
import Derived.Test.YtplobngbjpgcgaaGreatDoorA8
import Derived.Test.YtplobngbjpgcgaaGreatDoorA9
section
/-
  Devices: latch, hard.
-/
namespace Go.Proofs.YtplobngbjpgcgaaGreatDoor
set_option linter.unusedSimpArgs false
set_option linter.unusedVariables false
set_option maxRecDepth 10000
open Go.RowKit Pl

/-- A buffer. -/
def AB (w : World) (g h : Nat) : Prop := Blk w g 153 #[.int .u8 (h : Int)]
theorem ltNew_calls (b : Nat) (w : World) :
    Calls Tryz.prog 34 #[.int .u8 (b : Int)] w fun e w' => ∃ g, e = .returned (.pointer (some ⟨g, 0, none⟩)) ∧ AB w' g b ∧ w.heap.size ≤ g ∧ Below w.heap.size w w' := by
  go_enter Tryz.func34, Tryz.ntmps34
  go_wp2_with fail
  go_ret
  exact ⟨_, rfl, Blk.new _ _ _, Nat.le_refl _, by (repeat (first | exact Below.refl _ _ | assumption | refine Below.drew ?_ | refine Bl.alloc ?_ _ | refine below_drewN ?_ _ | refine Bl.chain ?_ (by assumption) (Nat.le_refl _)))⟩
theorem tmOff_calls (t R C : Nat) (n : Int) (w : World) (hT : TB w t R C false 3072) :
    Calls Tryz.prog 200 #[.pointer (some ⟨t, 0, none⟩), .int .i64 n] w fun e w' => e = .returned (.int .i64 0) ∧ w = w' := by
  have c2 : w.cell? ⟨t, 2, none⟩ = some (.bool false) := Blk.cell hT 2
  go_enter Tryz.func200, Tryz.ntmps200
  (go_wp2_with fail; refine Cl.p (tmIs_calls t R C false _ hT) ?_)
  go_wp2_with fail
  go_ret
  exact ⟨rfl, rfl⟩
/-- All devices. -/
def HW (w : World) (p t l bu a po vd vc : Nat) (now : Int) : Prop := Blk w p 95 #[.pointer (some ⟨t, 0, none⟩), .pointer (some ⟨l, 0, none⟩), .pointer (some ⟨bu, 0, none⟩), .pointer (some ⟨a, 0, none⟩), .pointer (some ⟨po, 0, none⟩), .pointer (some ⟨vd, 0, none⟩), .pointer (some ⟨vc, 0, none⟩), .int .i64 now]
theorem nums_none (w : World) (k : IntKind) (L : Nat → Int) : NumsAt w k none 0 L := fun i hi => by omega
theorem EdgB.low {w w' : World} {a : Option Addr} {n : Nat} {St : Nat → Int} {Ln : Nat → Nat} {Up : Nat → Bool} {B : Nat} (h : EdgB w a n St Ln Up B) (hb : Below w.heap.size w w') : EdgB w' a n St Ln Up B := fun i hi => by
  obtain ⟨b, off, ha, hlt, h0, h1, h2⟩ := h i hi
  exact ⟨b, off, ha, hlt, (hb.cell (cell_lt h0)).trans h0, (hb.cell (cell_lt h1)).trans h1, (hb.cell (cell_lt h2)).trans h2⟩
theorem NumsB.low {w w' : World} {k : IntKind} {a : Option Addr} {len : Nat} {g : Nat → Int} {B : Nat} (h : NumsB w k a len g B) (hb : Below w.heap.size w w') : NumsB w' k a len g B := fun i hi => by
  obtain ⟨b, off, ha, hlt, hc⟩ := h i hi
  exact ⟨b, off, ha, hlt, (hb.cell (cell_lt hc)).trans hc⟩
set_option maxRecDepth 100000 in
set_option maxHeartbeats 8000000 in
theorem hdNew_ok (o : Option Addr) (n c : Nat) (St : Nat → Int) (Ln : Nat → Nat) (Up : Nat → Bool) (w : World) (hE : EdgB w o n St Ln Up w.heap.size) (h0 : (chkV St Ln n).1 = 0) (hn : n ≤ 1000) :
    Calls Tryz.prog 12 #[.agg #[.slice none 0 0, .slice none 0 0, .slice none 0 0], .slice o n c] w fun e w' => ∃ p t l bu a po gf vd vc o' c' o1 c1 o2 c2 o3 c3, e = .returned (.tuple #[.pointer (some ⟨p, 0, none⟩), .agg (fltA (0, 0))]) ∧
      HW w' p t l bu a po vd vc 0 ∧ TB w' t 0 0 false 3072 ∧ LB w' l o' n c' 0 Ln Up false ∧ EdgB w' o' n St Ln Up l ∧ AB w' bu 0 ∧ IB w' a 0 false ∧ PB w' po gf 0 0 ∧ FB w' gf o1 0 c1 0 ∧ FB w' vd o2 0 c2 0 ∧ FB w' vc o3 0 c3 0 ∧
      (w.heap.size ≤ l ∧ l < t ∧ t < bu ∧ bu < a ∧ a < gf ∧ gf < po ∧ po < vd ∧ vd < vc ∧ vc < p) ∧ Below w.heap.size w w' := by
  have hx1 : Blk ((w.alloc (.cells #[.slice none 0 0, .slice none 0 0, .slice none 0 0] 52)).alloc (.cells #[.int .i64 0, .int .i64 0] 48)) w.heap.size 52 #[.slice none 0 0, .slice none 0 0, .slice none 0 0] := Blk.alloc (Blk.new _ _ _) _
  have hz1 : Blk ((w.alloc (.cells #[.slice none 0 0, .slice none 0 0, .slice none 0 0] 52)).alloc (.cells #[.int .i64 0, .int .i64 0] 48)) (w.heap.size + 1) 48 #[.int .i64 0, .int .i64 0] := Blk.newAt (by simp)
  have hb1 : Below w.heap.size w ((w.alloc (.cells #[.slice none 0 0, .slice none 0 0, .slice none 0 0] 52)).alloc (.cells #[.int .i64 0, .int .i64 0] 48)) := Bl.alloc (Bl.alloc (Below.refl _ _) _) _
  have q0 : ((w.alloc (.cells #[.slice none 0 0, .slice none 0 0, .slice none 0 0] 52)).alloc (.cells #[.int .i64 0, .int .i64 0] 48)).cell? ⟨w.heap.size, 0, none⟩ = some (.slice none 0 0) := hx1.cell 0
  have q1 : ((w.alloc (.cells #[.slice none 0 0, .slice none 0 0, .slice none 0 0] 52)).alloc (.cells #[.int .i64 0, .int .i64 0] 48)).cell? ⟨w.heap.size, 1, none⟩ = some (.slice none 0 0) := hx1.cell 1
  have q2 : ((w.alloc (.cells #[.slice none 0 0, .slice none 0 0, .slice none 0 0] 52)).alloc (.cells #[.int .i64 0, .int .i64 0] 48)).cell? ⟨w.heap.size, 2, none⟩ = some (.slice none 0 0) := hx1.cell 2
  go_enter Tryz.func12, Tryz.ntmps12
  go_wp2_with (refine wpList_load_row rfl 52 _ rfl w.heap.size rfl _ #[.slice none 0 0, .slice none 0 0, .slice none 0 0] (0, 0) _ hx1 Tryz.underlying52 rfl (by kernel_rfl) ?_)
  generalize (w.alloc (.cells #[.slice none 0 0, .slice none 0 0, .slice none 0 0] 52)).alloc (.cells #[.int .i64 0, .int .i64 0] 48) = w1 at *
  obtain ⟨fv, hfv⟩ : ∃ x, w.heap.size + 1 = x := ⟨_, rfl⟩
  obtain ⟨gx, hgx⟩ : ∃ x, w.heap.size = x := ⟨_, rfl⟩
  have hfv0 : w.heap.size < fv := by omega
  rw [hfv] at hz1 ⊢
  rw [hgx] at hx1 q0 q1 q2 ⊢
  clear hgx hfv
  refine Cl.m (fdCheck_calls none none none 0 0 0 0 0 0 _) ?_
  intro w2 hb2
  have hb02 := hb1.trans (hb2.mono hb1.size)
  have hx2 := hx1.below hb2 hx1.lt
  have hz2 := hz1.below hb2 hz1.lt
  have hE2 := (hE.low hb02).mono hb02.size
  clear hb1 hb2 hx1 hz1 hE q0 q1 q2
  go_wp2_with fail
  refine (lnNew_calls o n c St Ln Up w2 hE2 h0 hn).mono ?_
  rintro e w3 ⟨l, o', c', rfl, hL3, hE3, hl, hb3⟩
  have hb03 := hb02.trans (hb3.mono hb02.size)
  have hl0 : w.heap.size ≤ l := Nat.le_trans hb02.size hl
  have hfl : fv < l := by have := hz2.lt; omega
  have hx3 := hx2.below hb3 hx2.lt
  have hz3 := hz2.below hb3 hz2.lt
  have hz : Blk (w3.alloc (.cells #[.int .i64 0, .int .i64 0] 48)) w3.heap.size 48 #[.int .i64 0, .int .i64 0] := Blk.new _ _ _
  have hba : Below w3.heap.size w3 (w3.alloc (.cells #[.int .i64 0, .int .i64 0] 48)) := Bl.alloc (Below.refl _ _) _
  have hb04 := hb03.trans (hba.mono hb03.size)
  have hL4 : LB (w3.alloc (.cells #[.int .i64 0, .int .i64 0] 48)) l o' n c' 0 Ln Up false := Blk.alloc hL3 _
  have hE4 := hE3.low hba
  have hx4 : Blk (w3.alloc (.cells #[.int .i64 0, .int .i64 0] 48)) gx 52 #[.slice none 0 0, .slice none 0 0, .slice none 0 0] := hx3.alloc _
  have hz4 : Blk (w3.alloc (.cells #[.int .i64 0, .int .i64 0] 48)) fv 48 #[.int .i64 0, .int .i64 0] := hz3.alloc _
  clear hb02 hx2 hz2 hE2 hl hb3 hb03 hx3 hz3 hba hL3 hE3
  go_wp2_with (refine wpList_store_row rfl 48 _ _ rfl w3.heap.size (fltA (0, 0)) rfl rfl 48 _ hz (by kernel_rfl) rfl (by kernel_rfl) ?_; rw [show fltA (0, 0) = #[.int .i64 0, .int .i64 0] from rfl, setRow_same hz])
  generalize w3.alloc (.cells #[.int .i64 0, .int .i64 0] 48) = w4 at *
  clear hz
  have c0 : w4.cell? ⟨gx, 0, none⟩ = some (.slice none 0 0) := hx4.cell 0
  have c1 : w4.cell? ⟨gx, 1, none⟩ = some (.slice none 0 0) := hx4.cell 1
  have c2 : w4.cell? ⟨gx, 2, none⟩ = some (.slice none 0 0) := hx4.cell 2
  clear hx4
  refine wp_region_held_drew (S := fun W => Below w.heap.size w W ∧ W.cell? ⟨gx, 0, none⟩ = some (.slice none 0 0) ∧ W.cell? ⟨gx, 1, none⟩ = some (.slice none 0 0) ∧ W.cell? ⟨gx, 2, none⟩ = some (.slice none 0 0) ∧ Blk W fv 48 #[.int .i64 0, .int .i64 0] ∧ LB W l o' n c' 0 Ln Up false ∧ EdgB W o' n St Ln Up l) (by kernel_rfl) ⟨(by first | exact hb04.drew | exact hb04 | exact Below.drew hb04), (by first | exact c0.drew | exact c0 | exact Below.drew c0), (by first | exact c1.drew | exact c1 | exact Below.drew c1), (by first | exact c2.drew | exact c2 | exact Below.drew c2), (by first | exact hz4.drew | exact hz4 | exact Below.drew hz4), (by first | exact hL4.drew | exact hL4 | exact Below.drew hL4), (by first | exact hE4.drew | exact hE4 | exact Below.drew hE4)⟩ (fun hS0 => ?_)
  clear hb04 c0 c1 c2 hz4 hL4 hE4
  change wpAnyH _ _ _ _ _ 18 #[false, false, false, false, false, false, false, false, false, false, false, false, false, false, false, false, false, false] _ _
  generalize w4.drew = v0 at *
  refine wpAnyH_take (i := 1) (v := ?_) rfl (by kernel_rfl) (by kernel_rfl) (by kernel_rfl) (fun _ _ _ h => h) (Or.inl ⟨by rfl, ?_⟩) hS0 ?_
  rotate_left
  · (intro w hSw; (try dsimp only at hSw); go_simp; try with_reducible rfl)
  simp only [List.getElem_toArray, List.getElem_cons_zero, List.getElem_cons_succ, Act.put, List.setIfInBounds_toArray, List.set_cons_zero, List.set_cons_succ]
  refine wpAnyH_take (i := 4) (v := ?_) rfl (by kernel_rfl) (by kernel_rfl) (by kernel_rfl) (fun _ _ _ h => h) (Or.inl ⟨by rfl, ?_⟩) hS0 ?_
  rotate_left
  · (intro w hSw; (try dsimp only at hSw); go_simp; try with_reducible rfl)
  simp only [List.getElem_toArray, List.getElem_cons_zero, List.getElem_cons_succ, Act.put, List.setIfInBounds_toArray, List.set_cons_zero, List.set_cons_succ]
  refine wpAnyH_take (i := 5) (v := ?_) rfl (by kernel_rfl) (by kernel_rfl) (by kernel_rfl) (fun _ _ _ h => h) (Or.inl ⟨by rfl, ?_⟩) hS0 ?_
  rotate_left
  · (intro w hSw; (try dsimp only at hSw); go_simp; try with_reducible rfl)
  simp only [List.getElem_toArray, List.getElem_cons_zero, List.getElem_cons_succ, Act.put, List.setIfInBounds_toArray, List.set_cons_zero, List.set_cons_succ]
  refine wpAnyH_take (i := 7) (v := ?_) rfl (by kernel_rfl) (by kernel_rfl) (by kernel_rfl) (fun _ _ _ h => h) (Or.inl ⟨by rfl, ?_⟩) hS0 ?_
  rotate_left
  · (intro w hSw; (try dsimp only at hSw); go_simp; try with_reducible rfl)
  simp only [List.getElem_toArray, List.getElem_cons_zero, List.getElem_cons_succ, Act.put, List.setIfInBounds_toArray, List.set_cons_zero, List.set_cons_succ]
  refine wpAnyH_take (i := 8) (v := ?_) rfl (by kernel_rfl) (by kernel_rfl) (by kernel_rfl) (fun _ _ _ h => h) (Or.inl ⟨by rfl, ?_⟩) hS0 ?_
  rotate_left
  · (intro w hSw; (try dsimp only at hSw); go_simp; try with_reducible rfl)
  simp only [List.getElem_toArray, List.getElem_cons_zero, List.getElem_cons_succ, Act.put, List.setIfInBounds_toArray, List.set_cons_zero, List.set_cons_succ]
  refine wpAnyH_take (i := 10) (v := ?_) rfl (by kernel_rfl) (by kernel_rfl) (by kernel_rfl) (fun _ _ _ h => h) (Or.inl ⟨by rfl, ?_⟩) hS0 ?_
  rotate_left
  · (intro w hSw; (try dsimp only at hSw); go_simp; try with_reducible rfl)
  simp only [List.getElem_toArray, List.getElem_cons_zero, List.getElem_cons_succ, Act.put, List.setIfInBounds_toArray, List.set_cons_zero, List.set_cons_succ]
  refine wpAnyH_take (i := 11) (v := ?_) rfl (by kernel_rfl) (by kernel_rfl) (by kernel_rfl) (fun _ _ _ h => h) (Or.inl ⟨by rfl, ?_⟩) hS0 ?_
  rotate_left
  · (intro w hSw; (try dsimp only at hSw); go_simp; try with_reducible rfl)
  simp only [List.getElem_toArray, List.getElem_cons_zero, List.getElem_cons_succ, Act.put, List.setIfInBounds_toArray, List.set_cons_zero, List.set_cons_succ]
  refine wpAnyH_take (i := 15) (v := ?_) rfl (by kernel_rfl) (by kernel_rfl) (by kernel_rfl) (fun _ _ _ h => h) (Or.inl ⟨by rfl, ?_⟩) hS0 ?_
  rotate_left
  · (intro w hSw; (try dsimp only at hSw); go_simp; try with_reducible rfl)
  simp only [List.getElem_toArray, List.getElem_cons_zero, List.getElem_cons_succ, Act.put, List.setIfInBounds_toArray, List.set_cons_zero, List.set_cons_succ]
  refine wpAnyH_ready (rs := [0]) (by kernel_rfl) (by simp) ?_
  refine AllReadyH.cons rfl (fun K hK => ?_) AllReadyH.nil
  go_simp
  refine (tmNew_calls _).mono ?_
  rintro e v1 ⟨t, rfl, hT1, ht, hb1⟩
  have hlt : l < t := by have := Blk.lt hS0.2.2.2.2.2.1; omega
  (try go_simp)
  refine hK.out _ _ ⟨(by first | exact hS0.1.trans (hb1.mono hS0.1.size) | exact hS0.1.trans (hb1.mono (by have := hS0.1.size; omega))), ((hb1.cell (cell_lt hS0.2.1)).trans hS0.2.1), ((hb1.cell (cell_lt hS0.2.2.1)).trans hS0.2.2.1), ((hb1.cell (cell_lt hS0.2.2.2.1)).trans hS0.2.2.2.1), (hS0.2.2.2.2.1.below hb1 hS0.2.2.2.2.1.lt), (by first | exact hS0.2.2.2.2.2.1.below hb1 hS0.2.2.2.2.2.1.lt | exact hS0.2.2.2.2.2.1.trans (hb1.mono hS0.2.2.2.2.2.1.size) | exact hS0.2.2.2.2.2.1.trans (hb1.mono (by have := hS0.2.2.2.2.2.1.size; omega)) | exact (hb1.cell (cell_lt hS0.2.2.2.2.2.1)).trans hS0.2.2.2.2.2.1 | exact hS0.2.2.2.2.2.1.below hb1 (Nat.le_refl _) | exact hS0.2.2.2.2.2.1.low hb1 | exact hS0.2.2.2.2.2.1.below hb1 | exact hS0.2.2.2.2.2.1.trans (Only.of hb1)), (by first | exact hS0.2.2.2.2.2.2.low hb1 | exact hS0.2.2.2.2.2.2.below hb1 (Nat.le_refl _))⟩ (fun hS1 => ?_)
  clear hK K
  have hT : Below w.heap.size w v1 ∧ v1.cell? ⟨gx, 0, none⟩ = some (.slice none 0 0) ∧ v1.cell? ⟨gx, 1, none⟩ = some (.slice none 0 0) ∧ v1.cell? ⟨gx, 2, none⟩ = some (.slice none 0 0) ∧ Blk v1 fv 48 #[.int .i64 0, .int .i64 0] ∧ LB v1 l o' n c' 0 Ln Up false ∧ EdgB v1 o' n St Ln Up l ∧ TB v1 t 0 0 false 3072 := ⟨hS1.1, hS1.2.1, hS1.2.2.1, hS1.2.2.2.1, hS1.2.2.2.2.1, hS1.2.2.2.2.2.1, hS1.2.2.2.2.2.2, hT1⟩
  refine wpAnyH_mono (S' := fun W => Below w.heap.size w W ∧ W.cell? ⟨gx, 0, none⟩ = some (.slice none 0 0) ∧ W.cell? ⟨gx, 1, none⟩ = some (.slice none 0 0) ∧ W.cell? ⟨gx, 2, none⟩ = some (.slice none 0 0) ∧ Blk W fv 48 #[.int .i64 0, .int .i64 0] ∧ LB W l o' n c' 0 Ln Up false ∧ EdgB W o' n St Ln Up l ∧ TB W t 0 0 false 3072) (fun _ h => ⟨h.1, h.2.1, h.2.2.1, h.2.2.2.1, h.2.2.2.2.1, h.2.2.2.2.2.1, h.2.2.2.2.2.2.1⟩) ?_
  clear hS1
  have hS1 := hT
  clear hT
  clear hb1 hS0
  simp only [List.getElem_toArray, List.getElem_cons_zero, List.getElem_cons_succ, Act.put, List.setIfInBounds_toArray, List.set_cons_zero, List.set_cons_succ]
  refine wpAnyH_ready (rs := [2]) (by kernel_rfl) (by simp) ?_
  refine AllReadyH.cons rfl (fun K hK => ?_) AllReadyH.nil
  go_simp
  refine (ltNew_calls 0 _).mono ?_
  rintro e v2 ⟨bu, rfl, hA1, hbu, hb2⟩
  have htbu : t < bu := by have := Blk.lt hS1.2.2.2.2.2.2.2; omega
  (try go_simp)
  refine hK.out _ _ ⟨(by first | exact hS1.1.trans (hb2.mono hS1.1.size) | exact hS1.1.trans (hb2.mono (by have := hS1.1.size; omega))), ((hb2.cell (cell_lt hS1.2.1)).trans hS1.2.1), ((hb2.cell (cell_lt hS1.2.2.1)).trans hS1.2.2.1), ((hb2.cell (cell_lt hS1.2.2.2.1)).trans hS1.2.2.2.1), (hS1.2.2.2.2.1.below hb2 hS1.2.2.2.2.1.lt), (by first | exact hS1.2.2.2.2.2.1.below hb2 hS1.2.2.2.2.2.1.lt | exact hS1.2.2.2.2.2.1.trans (hb2.mono hS1.2.2.2.2.2.1.size) | exact hS1.2.2.2.2.2.1.trans (hb2.mono (by have := hS1.2.2.2.2.2.1.size; omega)) | exact (hb2.cell (cell_lt hS1.2.2.2.2.2.1)).trans hS1.2.2.2.2.2.1 | exact hS1.2.2.2.2.2.1.below hb2 (Nat.le_refl _) | exact hS1.2.2.2.2.2.1.low hb2 | exact hS1.2.2.2.2.2.1.below hb2 | exact hS1.2.2.2.2.2.1.trans (Only.of hb2)), (by first | exact hS1.2.2.2.2.2.2.1.low hb2 | exact hS1.2.2.2.2.2.2.1.below hb2 (Nat.le_refl _)), (by first | exact hS1.2.2.2.2.2.2.2.below hb2 hS1.2.2.2.2.2.2.2.lt | exact hS1.2.2.2.2.2.2.2.trans (hb2.mono hS1.2.2.2.2.2.2.2.size) | exact hS1.2.2.2.2.2.2.2.trans (hb2.mono (by have := hS1.2.2.2.2.2.2.2.size; omega)) | exact (hb2.cell (cell_lt hS1.2.2.2.2.2.2.2)).trans hS1.2.2.2.2.2.2.2 | exact hS1.2.2.2.2.2.2.2.below hb2 (Nat.le_refl _) | exact hS1.2.2.2.2.2.2.2.low hb2 | exact hS1.2.2.2.2.2.2.2.below hb2 | exact hS1.2.2.2.2.2.2.2.trans (Only.of hb2))⟩ (fun hS2 => ?_)
  clear hK K
  have hT : Below w.heap.size w v2 ∧ v2.cell? ⟨gx, 0, none⟩ = some (.slice none 0 0) ∧ v2.cell? ⟨gx, 1, none⟩ = some (.slice none 0 0) ∧ v2.cell? ⟨gx, 2, none⟩ = some (.slice none 0 0) ∧ Blk v2 fv 48 #[.int .i64 0, .int .i64 0] ∧ LB v2 l o' n c' 0 Ln Up false ∧ EdgB v2 o' n St Ln Up l ∧ TB v2 t 0 0 false 3072 ∧ AB v2 bu 0 := ⟨hS2.1, hS2.2.1, hS2.2.2.1, hS2.2.2.2.1, hS2.2.2.2.2.1, hS2.2.2.2.2.2.1, hS2.2.2.2.2.2.2.1, hS2.2.2.2.2.2.2.2, hA1⟩
  refine wpAnyH_mono (S' := fun W => Below w.heap.size w W ∧ W.cell? ⟨gx, 0, none⟩ = some (.slice none 0 0) ∧ W.cell? ⟨gx, 1, none⟩ = some (.slice none 0 0) ∧ W.cell? ⟨gx, 2, none⟩ = some (.slice none 0 0) ∧ Blk W fv 48 #[.int .i64 0, .int .i64 0] ∧ LB W l o' n c' 0 Ln Up false ∧ EdgB W o' n St Ln Up l ∧ TB W t 0 0 false 3072 ∧ AB W bu 0) (fun _ h => ⟨h.1, h.2.1, h.2.2.1, h.2.2.2.1, h.2.2.2.2.1, h.2.2.2.2.2.1, h.2.2.2.2.2.2.1, h.2.2.2.2.2.2.2.1⟩) ?_
  clear hS2
  have hS2 := hT
  clear hT
  clear hb2 hS1
  simp only [List.getElem_toArray, List.getElem_cons_zero, List.getElem_cons_succ, Act.put, List.setIfInBounds_toArray, List.set_cons_zero, List.set_cons_succ]
  refine wpAnyH_ready (rs := [3]) (by kernel_rfl) (by simp) ?_
  refine AllReadyH.cons rfl (fun K hK => ?_) AllReadyH.nil
  go_simp
  refine (iqNew_calls _).mono ?_
  rintro e v3 ⟨ia, rfl, hI1, hia, hb3⟩
  have hbua : bu < ia := by have := Blk.lt hS2.2.2.2.2.2.2.2.2; omega
  (try go_simp)
  refine hK.out _ _ ⟨(by first | exact hS2.1.trans (hb3.mono hS2.1.size) | exact hS2.1.trans (hb3.mono (by have := hS2.1.size; omega))), ((hb3.cell (cell_lt hS2.2.1)).trans hS2.2.1), ((hb3.cell (cell_lt hS2.2.2.1)).trans hS2.2.2.1), ((hb3.cell (cell_lt hS2.2.2.2.1)).trans hS2.2.2.2.1), (hS2.2.2.2.2.1.below hb3 hS2.2.2.2.2.1.lt), (by first | exact hS2.2.2.2.2.2.1.below hb3 hS2.2.2.2.2.2.1.lt | exact hS2.2.2.2.2.2.1.trans (hb3.mono hS2.2.2.2.2.2.1.size) | exact hS2.2.2.2.2.2.1.trans (hb3.mono (by have := hS2.2.2.2.2.2.1.size; omega)) | exact (hb3.cell (cell_lt hS2.2.2.2.2.2.1)).trans hS2.2.2.2.2.2.1 | exact hS2.2.2.2.2.2.1.below hb3 (Nat.le_refl _) | exact hS2.2.2.2.2.2.1.low hb3 | exact hS2.2.2.2.2.2.1.below hb3 | exact hS2.2.2.2.2.2.1.trans (Only.of hb3)), (by first | exact hS2.2.2.2.2.2.2.1.low hb3 | exact hS2.2.2.2.2.2.2.1.below hb3 (Nat.le_refl _)), (by first | exact hS2.2.2.2.2.2.2.2.1.below hb3 hS2.2.2.2.2.2.2.2.1.lt | exact hS2.2.2.2.2.2.2.2.1.trans (hb3.mono hS2.2.2.2.2.2.2.2.1.size) | exact hS2.2.2.2.2.2.2.2.1.trans (hb3.mono (by have := hS2.2.2.2.2.2.2.2.1.size; omega)) | exact (hb3.cell (cell_lt hS2.2.2.2.2.2.2.2.1)).trans hS2.2.2.2.2.2.2.2.1 | exact hS2.2.2.2.2.2.2.2.1.below hb3 (Nat.le_refl _) | exact hS2.2.2.2.2.2.2.2.1.low hb3 | exact hS2.2.2.2.2.2.2.2.1.below hb3 | exact hS2.2.2.2.2.2.2.2.1.trans (Only.of hb3)), (by first | exact hS2.2.2.2.2.2.2.2.2.below hb3 hS2.2.2.2.2.2.2.2.2.lt | exact hS2.2.2.2.2.2.2.2.2.trans (hb3.mono hS2.2.2.2.2.2.2.2.2.size) | exact hS2.2.2.2.2.2.2.2.2.trans (hb3.mono (by have := hS2.2.2.2.2.2.2.2.2.size; omega)) | exact (hb3.cell (cell_lt hS2.2.2.2.2.2.2.2.2)).trans hS2.2.2.2.2.2.2.2.2 | exact hS2.2.2.2.2.2.2.2.2.below hb3 (Nat.le_refl _) | exact hS2.2.2.2.2.2.2.2.2.low hb3 | exact hS2.2.2.2.2.2.2.2.2.below hb3 | exact hS2.2.2.2.2.2.2.2.2.trans (Only.of hb3))⟩ (fun hS3 => ?_)
  clear hK K
  have hT : Below w.heap.size w v3 ∧ v3.cell? ⟨gx, 0, none⟩ = some (.slice none 0 0) ∧ v3.cell? ⟨gx, 1, none⟩ = some (.slice none 0 0) ∧ v3.cell? ⟨gx, 2, none⟩ = some (.slice none 0 0) ∧ Blk v3 fv 48 #[.int .i64 0, .int .i64 0] ∧ LB v3 l o' n c' 0 Ln Up false ∧ EdgB v3 o' n St Ln Up l ∧ TB v3 t 0 0 false 3072 ∧ AB v3 bu 0 ∧ IB v3 ia 0 false := ⟨hS3.1, hS3.2.1, hS3.2.2.1, hS3.2.2.2.1, hS3.2.2.2.2.1, hS3.2.2.2.2.2.1, hS3.2.2.2.2.2.2.1, hS3.2.2.2.2.2.2.2.1, hS3.2.2.2.2.2.2.2.2, hI1⟩
  refine wpAnyH_mono (S' := fun W => Below w.heap.size w W ∧ W.cell? ⟨gx, 0, none⟩ = some (.slice none 0 0) ∧ W.cell? ⟨gx, 1, none⟩ = some (.slice none 0 0) ∧ W.cell? ⟨gx, 2, none⟩ = some (.slice none 0 0) ∧ Blk W fv 48 #[.int .i64 0, .int .i64 0] ∧ LB W l o' n c' 0 Ln Up false ∧ EdgB W o' n St Ln Up l ∧ TB W t 0 0 false 3072 ∧ AB W bu 0 ∧ IB W ia 0 false) (fun _ h => ⟨h.1, h.2.1, h.2.2.1, h.2.2.2.1, h.2.2.2.2.1, h.2.2.2.2.2.1, h.2.2.2.2.2.2.1, h.2.2.2.2.2.2.2.1, h.2.2.2.2.2.2.2.2.1⟩) ?_
  clear hS3
  have hS3 := hT
  clear hT
  clear hb3 hS2
  simp only [List.getElem_toArray, List.getElem_cons_zero, List.getElem_cons_succ, Act.put, List.setIfInBounds_toArray, List.set_cons_zero, List.set_cons_succ]
  refine wpAnyH_ready (rs := [6]) (by kernel_rfl) (by simp) ?_
  refine AllReadyH.cons rfl (fun K hK => ?_) AllReadyH.nil
  go_simp
  refine (ptNew_calls none 0 0 (fun _ => 0) _ (by omega) (nums_none _ _ _)).mono ?_
  rintro e v4 ⟨po, gf, o1, cc1, rfl, hP1, hF1, _, hgf, hpo, hb4⟩
  have hagf : ia < gf := by have := Blk.lt hS3.2.2.2.2.2.2.2.2.2; omega
  (try go_simp)
  refine hK.out _ _ ⟨(by first | exact hS3.1.trans (hb4.mono hS3.1.size) | exact hS3.1.trans (hb4.mono (by have := hS3.1.size; omega))), ((hb4.cell (cell_lt hS3.2.1)).trans hS3.2.1), ((hb4.cell (cell_lt hS3.2.2.1)).trans hS3.2.2.1), ((hb4.cell (cell_lt hS3.2.2.2.1)).trans hS3.2.2.2.1), (hS3.2.2.2.2.1.below hb4 hS3.2.2.2.2.1.lt), (by first | exact hS3.2.2.2.2.2.1.below hb4 hS3.2.2.2.2.2.1.lt | exact hS3.2.2.2.2.2.1.trans (hb4.mono hS3.2.2.2.2.2.1.size) | exact hS3.2.2.2.2.2.1.trans (hb4.mono (by have := hS3.2.2.2.2.2.1.size; omega)) | exact (hb4.cell (cell_lt hS3.2.2.2.2.2.1)).trans hS3.2.2.2.2.2.1 | exact hS3.2.2.2.2.2.1.below hb4 (Nat.le_refl _) | exact hS3.2.2.2.2.2.1.low hb4 | exact hS3.2.2.2.2.2.1.below hb4 | exact hS3.2.2.2.2.2.1.trans (Only.of hb4)), (by first | exact hS3.2.2.2.2.2.2.1.low hb4 | exact hS3.2.2.2.2.2.2.1.below hb4 (Nat.le_refl _)), (by first | exact hS3.2.2.2.2.2.2.2.1.below hb4 hS3.2.2.2.2.2.2.2.1.lt | exact hS3.2.2.2.2.2.2.2.1.trans (hb4.mono hS3.2.2.2.2.2.2.2.1.size) | exact hS3.2.2.2.2.2.2.2.1.trans (hb4.mono (by have := hS3.2.2.2.2.2.2.2.1.size; omega)) | exact (hb4.cell (cell_lt hS3.2.2.2.2.2.2.2.1)).trans hS3.2.2.2.2.2.2.2.1 | exact hS3.2.2.2.2.2.2.2.1.below hb4 (Nat.le_refl _) | exact hS3.2.2.2.2.2.2.2.1.low hb4 | exact hS3.2.2.2.2.2.2.2.1.below hb4 | exact hS3.2.2.2.2.2.2.2.1.trans (Only.of hb4)), (by first | exact hS3.2.2.2.2.2.2.2.2.1.below hb4 hS3.2.2.2.2.2.2.2.2.1.lt | exact hS3.2.2.2.2.2.2.2.2.1.trans (hb4.mono hS3.2.2.2.2.2.2.2.2.1.size) | exact hS3.2.2.2.2.2.2.2.2.1.trans (hb4.mono (by have := hS3.2.2.2.2.2.2.2.2.1.size; omega)) | exact (hb4.cell (cell_lt hS3.2.2.2.2.2.2.2.2.1)).trans hS3.2.2.2.2.2.2.2.2.1 | exact hS3.2.2.2.2.2.2.2.2.1.below hb4 (Nat.le_refl _) | exact hS3.2.2.2.2.2.2.2.2.1.low hb4 | exact hS3.2.2.2.2.2.2.2.2.1.below hb4 | exact hS3.2.2.2.2.2.2.2.2.1.trans (Only.of hb4)), (by first | exact hS3.2.2.2.2.2.2.2.2.2.below hb4 hS3.2.2.2.2.2.2.2.2.2.lt | exact hS3.2.2.2.2.2.2.2.2.2.trans (hb4.mono hS3.2.2.2.2.2.2.2.2.2.size) | exact hS3.2.2.2.2.2.2.2.2.2.trans (hb4.mono (by have := hS3.2.2.2.2.2.2.2.2.2.size; omega)) | exact (hb4.cell (cell_lt hS3.2.2.2.2.2.2.2.2.2)).trans hS3.2.2.2.2.2.2.2.2.2 | exact hS3.2.2.2.2.2.2.2.2.2.below hb4 (Nat.le_refl _) | exact hS3.2.2.2.2.2.2.2.2.2.low hb4 | exact hS3.2.2.2.2.2.2.2.2.2.below hb4 | exact hS3.2.2.2.2.2.2.2.2.2.trans (Only.of hb4))⟩ (fun hS4 => ?_)
  clear hK K
  have hT : Below w.heap.size w v4 ∧ v4.cell? ⟨gx, 0, none⟩ = some (.slice none 0 0) ∧ v4.cell? ⟨gx, 1, none⟩ = some (.slice none 0 0) ∧ v4.cell? ⟨gx, 2, none⟩ = some (.slice none 0 0) ∧ Blk v4 fv 48 #[.int .i64 0, .int .i64 0] ∧ LB v4 l o' n c' 0 Ln Up false ∧ EdgB v4 o' n St Ln Up l ∧ TB v4 t 0 0 false 3072 ∧ AB v4 bu 0 ∧ IB v4 ia 0 false ∧ PB v4 po gf 0 0 ∧ FB v4 gf o1 0 cc1 0 := ⟨hS4.1, hS4.2.1, hS4.2.2.1, hS4.2.2.2.1, hS4.2.2.2.2.1, hS4.2.2.2.2.2.1, hS4.2.2.2.2.2.2.1, hS4.2.2.2.2.2.2.2.1, hS4.2.2.2.2.2.2.2.2.1, hS4.2.2.2.2.2.2.2.2.2, hP1, hF1⟩
  refine wpAnyH_mono (S' := fun W => Below w.heap.size w W ∧ W.cell? ⟨gx, 0, none⟩ = some (.slice none 0 0) ∧ W.cell? ⟨gx, 1, none⟩ = some (.slice none 0 0) ∧ W.cell? ⟨gx, 2, none⟩ = some (.slice none 0 0) ∧ Blk W fv 48 #[.int .i64 0, .int .i64 0] ∧ LB W l o' n c' 0 Ln Up false ∧ EdgB W o' n St Ln Up l ∧ TB W t 0 0 false 3072 ∧ AB W bu 0 ∧ IB W ia 0 false ∧ PB W po gf 0 0 ∧ FB W gf o1 0 cc1 0) (fun _ h => ⟨h.1, h.2.1, h.2.2.1, h.2.2.2.1, h.2.2.2.2.1, h.2.2.2.2.2.1, h.2.2.2.2.2.2.1, h.2.2.2.2.2.2.2.1, h.2.2.2.2.2.2.2.2.1, h.2.2.2.2.2.2.2.2.2.1⟩) ?_
  clear hS4
  have hS4 := hT
  clear hT
  clear hb4 hS3
  simp only [List.getElem_toArray, List.getElem_cons_zero, List.getElem_cons_succ, Act.put, List.setIfInBounds_toArray, List.set_cons_zero, List.set_cons_succ]
  refine wpAnyH_ready (rs := [9]) (by kernel_rfl) (by simp) ?_
  refine AllReadyH.cons rfl (fun K hK => ?_) AllReadyH.nil
  go_simp
  refine (fdNew_calls none 0 0 (fun _ => 0) _ (by omega) (nums_none _ _ _)).mono ?_
  rintro e v5 ⟨vd, o2, cc2, rfl, hG1, _, hvd, hb5⟩
  have hpvd : po < vd := by have := Blk.lt hS4.2.2.2.2.2.2.2.2.2.2.1; omega
  (try go_simp)
  refine hK.out _ _ ⟨(by first | exact hS4.1.trans (hb5.mono hS4.1.size) | exact hS4.1.trans (hb5.mono (by have := hS4.1.size; omega))), ((hb5.cell (cell_lt hS4.2.1)).trans hS4.2.1), ((hb5.cell (cell_lt hS4.2.2.1)).trans hS4.2.2.1), ((hb5.cell (cell_lt hS4.2.2.2.1)).trans hS4.2.2.2.1), (hS4.2.2.2.2.1.below hb5 hS4.2.2.2.2.1.lt), (by first | exact hS4.2.2.2.2.2.1.below hb5 hS4.2.2.2.2.2.1.lt | exact hS4.2.2.2.2.2.1.trans (hb5.mono hS4.2.2.2.2.2.1.size) | exact hS4.2.2.2.2.2.1.trans (hb5.mono (by have := hS4.2.2.2.2.2.1.size; omega)) | exact (hb5.cell (cell_lt hS4.2.2.2.2.2.1)).trans hS4.2.2.2.2.2.1 | exact hS4.2.2.2.2.2.1.below hb5 (Nat.le_refl _) | exact hS4.2.2.2.2.2.1.low hb5 | exact hS4.2.2.2.2.2.1.below hb5 | exact hS4.2.2.2.2.2.1.trans (Only.of hb5)), (by first | exact hS4.2.2.2.2.2.2.1.low hb5 | exact hS4.2.2.2.2.2.2.1.below hb5 (Nat.le_refl _)), (by first | exact hS4.2.2.2.2.2.2.2.1.below hb5 hS4.2.2.2.2.2.2.2.1.lt | exact hS4.2.2.2.2.2.2.2.1.trans (hb5.mono hS4.2.2.2.2.2.2.2.1.size) | exact hS4.2.2.2.2.2.2.2.1.trans (hb5.mono (by have := hS4.2.2.2.2.2.2.2.1.size; omega)) | exact (hb5.cell (cell_lt hS4.2.2.2.2.2.2.2.1)).trans hS4.2.2.2.2.2.2.2.1 | exact hS4.2.2.2.2.2.2.2.1.below hb5 (Nat.le_refl _) | exact hS4.2.2.2.2.2.2.2.1.low hb5 | exact hS4.2.2.2.2.2.2.2.1.below hb5 | exact hS4.2.2.2.2.2.2.2.1.trans (Only.of hb5)), (by first | exact hS4.2.2.2.2.2.2.2.2.1.below hb5 hS4.2.2.2.2.2.2.2.2.1.lt | exact hS4.2.2.2.2.2.2.2.2.1.trans (hb5.mono hS4.2.2.2.2.2.2.2.2.1.size) | exact hS4.2.2.2.2.2.2.2.2.1.trans (hb5.mono (by have := hS4.2.2.2.2.2.2.2.2.1.size; omega)) | exact (hb5.cell (cell_lt hS4.2.2.2.2.2.2.2.2.1)).trans hS4.2.2.2.2.2.2.2.2.1 | exact hS4.2.2.2.2.2.2.2.2.1.below hb5 (Nat.le_refl _) | exact hS4.2.2.2.2.2.2.2.2.1.low hb5 | exact hS4.2.2.2.2.2.2.2.2.1.below hb5 | exact hS4.2.2.2.2.2.2.2.2.1.trans (Only.of hb5)), (by first | exact hS4.2.2.2.2.2.2.2.2.2.1.below hb5 hS4.2.2.2.2.2.2.2.2.2.1.lt | exact hS4.2.2.2.2.2.2.2.2.2.1.trans (hb5.mono hS4.2.2.2.2.2.2.2.2.2.1.size) | exact hS4.2.2.2.2.2.2.2.2.2.1.trans (hb5.mono (by have := hS4.2.2.2.2.2.2.2.2.2.1.size; omega)) | exact (hb5.cell (cell_lt hS4.2.2.2.2.2.2.2.2.2.1)).trans hS4.2.2.2.2.2.2.2.2.2.1 | exact hS4.2.2.2.2.2.2.2.2.2.1.below hb5 (Nat.le_refl _) | exact hS4.2.2.2.2.2.2.2.2.2.1.low hb5 | exact hS4.2.2.2.2.2.2.2.2.2.1.below hb5 | exact hS4.2.2.2.2.2.2.2.2.2.1.trans (Only.of hb5)), (by first | exact hS4.2.2.2.2.2.2.2.2.2.2.1.below hb5 hS4.2.2.2.2.2.2.2.2.2.2.1.lt | exact hS4.2.2.2.2.2.2.2.2.2.2.1.trans (hb5.mono hS4.2.2.2.2.2.2.2.2.2.2.1.size) | exact hS4.2.2.2.2.2.2.2.2.2.2.1.trans (hb5.mono (by have := hS4.2.2.2.2.2.2.2.2.2.2.1.size; omega)) | exact (hb5.cell (cell_lt hS4.2.2.2.2.2.2.2.2.2.2.1)).trans hS4.2.2.2.2.2.2.2.2.2.2.1 | exact hS4.2.2.2.2.2.2.2.2.2.2.1.below hb5 (Nat.le_refl _) | exact hS4.2.2.2.2.2.2.2.2.2.2.1.low hb5 | exact hS4.2.2.2.2.2.2.2.2.2.2.1.below hb5 | exact hS4.2.2.2.2.2.2.2.2.2.2.1.trans (Only.of hb5)), (by first | exact hS4.2.2.2.2.2.2.2.2.2.2.2.below hb5 hS4.2.2.2.2.2.2.2.2.2.2.2.lt | exact hS4.2.2.2.2.2.2.2.2.2.2.2.trans (hb5.mono hS4.2.2.2.2.2.2.2.2.2.2.2.size) | exact hS4.2.2.2.2.2.2.2.2.2.2.2.trans (hb5.mono (by have := hS4.2.2.2.2.2.2.2.2.2.2.2.size; omega)) | exact (hb5.cell (cell_lt hS4.2.2.2.2.2.2.2.2.2.2.2)).trans hS4.2.2.2.2.2.2.2.2.2.2.2 | exact hS4.2.2.2.2.2.2.2.2.2.2.2.below hb5 (Nat.le_refl _) | exact hS4.2.2.2.2.2.2.2.2.2.2.2.low hb5 | exact hS4.2.2.2.2.2.2.2.2.2.2.2.below hb5 | exact hS4.2.2.2.2.2.2.2.2.2.2.2.trans (Only.of hb5))⟩ (fun hS5 => ?_)
  clear hK K
  have hT : Below w.heap.size w v5 ∧ v5.cell? ⟨gx, 0, none⟩ = some (.slice none 0 0) ∧ v5.cell? ⟨gx, 1, none⟩ = some (.slice none 0 0) ∧ v5.cell? ⟨gx, 2, none⟩ = some (.slice none 0 0) ∧ Blk v5 fv 48 #[.int .i64 0, .int .i64 0] ∧ LB v5 l o' n c' 0 Ln Up false ∧ EdgB v5 o' n St Ln Up l ∧ TB v5 t 0 0 false 3072 ∧ AB v5 bu 0 ∧ IB v5 ia 0 false ∧ PB v5 po gf 0 0 ∧ FB v5 gf o1 0 cc1 0 ∧ FB v5 vd o2 0 cc2 0 := ⟨hS5.1, hS5.2.1, hS5.2.2.1, hS5.2.2.2.1, hS5.2.2.2.2.1, hS5.2.2.2.2.2.1, hS5.2.2.2.2.2.2.1, hS5.2.2.2.2.2.2.2.1, hS5.2.2.2.2.2.2.2.2.1, hS5.2.2.2.2.2.2.2.2.2.1, hS5.2.2.2.2.2.2.2.2.2.2.1, hS5.2.2.2.2.2.2.2.2.2.2.2, hG1⟩
  refine wpAnyH_mono (S' := fun W => Below w.heap.size w W ∧ W.cell? ⟨gx, 0, none⟩ = some (.slice none 0 0) ∧ W.cell? ⟨gx, 1, none⟩ = some (.slice none 0 0) ∧ W.cell? ⟨gx, 2, none⟩ = some (.slice none 0 0) ∧ Blk W fv 48 #[.int .i64 0, .int .i64 0] ∧ LB W l o' n c' 0 Ln Up false ∧ EdgB W o' n St Ln Up l ∧ TB W t 0 0 false 3072 ∧ AB W bu 0 ∧ IB W ia 0 false ∧ PB W po gf 0 0 ∧ FB W gf o1 0 cc1 0 ∧ FB W vd o2 0 cc2 0) (fun _ h => ⟨h.1, h.2.1, h.2.2.1, h.2.2.2.1, h.2.2.2.2.1, h.2.2.2.2.2.1, h.2.2.2.2.2.2.1, h.2.2.2.2.2.2.2.1, h.2.2.2.2.2.2.2.2.1, h.2.2.2.2.2.2.2.2.2.1, h.2.2.2.2.2.2.2.2.2.2.1, h.2.2.2.2.2.2.2.2.2.2.2.1⟩) ?_
  clear hS5
  have hS5 := hT
  clear hT
  clear hb5 hS4
  simp only [List.getElem_toArray, List.getElem_cons_zero, List.getElem_cons_succ, Act.put, List.setIfInBounds_toArray, List.set_cons_zero, List.set_cons_succ]
  refine wpAnyH_ready (rs := [12]) (by kernel_rfl) (by simp) ?_
  refine AllReadyH.cons rfl (fun K hK => ?_) AllReadyH.nil
  go_simp
  refine (fdNew_calls none 0 0 (fun _ => 0) _ (by omega) (nums_none _ _ _)).mono ?_
  rintro e v6 ⟨vc, o3, cc3, rfl, hH1, _, hvc, hb6⟩
  have hvdc : vd < vc := by have := Blk.lt hS5.2.2.2.2.2.2.2.2.2.2.2.2; omega
  (try go_simp)
  refine hK.out _ _ ⟨(by first | exact hS5.1.trans (hb6.mono hS5.1.size) | exact hS5.1.trans (hb6.mono (by have := hS5.1.size; omega))), ((hb6.cell (cell_lt hS5.2.1)).trans hS5.2.1), ((hb6.cell (cell_lt hS5.2.2.1)).trans hS5.2.2.1), ((hb6.cell (cell_lt hS5.2.2.2.1)).trans hS5.2.2.2.1), (hS5.2.2.2.2.1.below hb6 hS5.2.2.2.2.1.lt), (by first | exact hS5.2.2.2.2.2.1.below hb6 hS5.2.2.2.2.2.1.lt | exact hS5.2.2.2.2.2.1.trans (hb6.mono hS5.2.2.2.2.2.1.size) | exact hS5.2.2.2.2.2.1.trans (hb6.mono (by have := hS5.2.2.2.2.2.1.size; omega)) | exact (hb6.cell (cell_lt hS5.2.2.2.2.2.1)).trans hS5.2.2.2.2.2.1 | exact hS5.2.2.2.2.2.1.below hb6 (Nat.le_refl _) | exact hS5.2.2.2.2.2.1.low hb6 | exact hS5.2.2.2.2.2.1.below hb6 | exact hS5.2.2.2.2.2.1.trans (Only.of hb6)), (by first | exact hS5.2.2.2.2.2.2.1.low hb6 | exact hS5.2.2.2.2.2.2.1.below hb6 (Nat.le_refl _)), (by first | exact hS5.2.2.2.2.2.2.2.1.below hb6 hS5.2.2.2.2.2.2.2.1.lt | exact hS5.2.2.2.2.2.2.2.1.trans (hb6.mono hS5.2.2.2.2.2.2.2.1.size) | exact hS5.2.2.2.2.2.2.2.1.trans (hb6.mono (by have := hS5.2.2.2.2.2.2.2.1.size; omega)) | exact (hb6.cell (cell_lt hS5.2.2.2.2.2.2.2.1)).trans hS5.2.2.2.2.2.2.2.1 | exact hS5.2.2.2.2.2.2.2.1.below hb6 (Nat.le_refl _) | exact hS5.2.2.2.2.2.2.2.1.low hb6 | exact hS5.2.2.2.2.2.2.2.1.below hb6 | exact hS5.2.2.2.2.2.2.2.1.trans (Only.of hb6)), (by first | exact hS5.2.2.2.2.2.2.2.2.1.below hb6 hS5.2.2.2.2.2.2.2.2.1.lt | exact hS5.2.2.2.2.2.2.2.2.1.trans (hb6.mono hS5.2.2.2.2.2.2.2.2.1.size) | exact hS5.2.2.2.2.2.2.2.2.1.trans (hb6.mono (by have := hS5.2.2.2.2.2.2.2.2.1.size; omega)) | exact (hb6.cell (cell_lt hS5.2.2.2.2.2.2.2.2.1)).trans hS5.2.2.2.2.2.2.2.2.1 | exact hS5.2.2.2.2.2.2.2.2.1.below hb6 (Nat.le_refl _) | exact hS5.2.2.2.2.2.2.2.2.1.low hb6 | exact hS5.2.2.2.2.2.2.2.2.1.below hb6 | exact hS5.2.2.2.2.2.2.2.2.1.trans (Only.of hb6)), (by first | exact hS5.2.2.2.2.2.2.2.2.2.1.below hb6 hS5.2.2.2.2.2.2.2.2.2.1.lt | exact hS5.2.2.2.2.2.2.2.2.2.1.trans (hb6.mono hS5.2.2.2.2.2.2.2.2.2.1.size) | exact hS5.2.2.2.2.2.2.2.2.2.1.trans (hb6.mono (by have := hS5.2.2.2.2.2.2.2.2.2.1.size; omega)) | exact (hb6.cell (cell_lt hS5.2.2.2.2.2.2.2.2.2.1)).trans hS5.2.2.2.2.2.2.2.2.2.1 | exact hS5.2.2.2.2.2.2.2.2.2.1.below hb6 (Nat.le_refl _) | exact hS5.2.2.2.2.2.2.2.2.2.1.low hb6 | exact hS5.2.2.2.2.2.2.2.2.2.1.below hb6 | exact hS5.2.2.2.2.2.2.2.2.2.1.trans (Only.of hb6)), (by first | exact hS5.2.2.2.2.2.2.2.2.2.2.1.below hb6 hS5.2.2.2.2.2.2.2.2.2.2.1.lt | exact hS5.2.2.2.2.2.2.2.2.2.2.1.trans (hb6.mono hS5.2.2.2.2.2.2.2.2.2.2.1.size) | exact hS5.2.2.2.2.2.2.2.2.2.2.1.trans (hb6.mono (by have := hS5.2.2.2.2.2.2.2.2.2.2.1.size; omega)) | exact (hb6.cell (cell_lt hS5.2.2.2.2.2.2.2.2.2.2.1)).trans hS5.2.2.2.2.2.2.2.2.2.2.1 | exact hS5.2.2.2.2.2.2.2.2.2.2.1.below hb6 (Nat.le_refl _) | exact hS5.2.2.2.2.2.2.2.2.2.2.1.low hb6 | exact hS5.2.2.2.2.2.2.2.2.2.2.1.below hb6 | exact hS5.2.2.2.2.2.2.2.2.2.2.1.trans (Only.of hb6)), (by first | exact hS5.2.2.2.2.2.2.2.2.2.2.2.1.below hb6 hS5.2.2.2.2.2.2.2.2.2.2.2.1.lt | exact hS5.2.2.2.2.2.2.2.2.2.2.2.1.trans (hb6.mono hS5.2.2.2.2.2.2.2.2.2.2.2.1.size) | exact hS5.2.2.2.2.2.2.2.2.2.2.2.1.trans (hb6.mono (by have := hS5.2.2.2.2.2.2.2.2.2.2.2.1.size; omega)) | exact (hb6.cell (cell_lt hS5.2.2.2.2.2.2.2.2.2.2.2.1)).trans hS5.2.2.2.2.2.2.2.2.2.2.2.1 | exact hS5.2.2.2.2.2.2.2.2.2.2.2.1.below hb6 (Nat.le_refl _) | exact hS5.2.2.2.2.2.2.2.2.2.2.2.1.low hb6 | exact hS5.2.2.2.2.2.2.2.2.2.2.2.1.below hb6 | exact hS5.2.2.2.2.2.2.2.2.2.2.2.1.trans (Only.of hb6)), (by first | exact hS5.2.2.2.2.2.2.2.2.2.2.2.2.below hb6 hS5.2.2.2.2.2.2.2.2.2.2.2.2.lt | exact hS5.2.2.2.2.2.2.2.2.2.2.2.2.trans (hb6.mono hS5.2.2.2.2.2.2.2.2.2.2.2.2.size) | exact hS5.2.2.2.2.2.2.2.2.2.2.2.2.trans (hb6.mono (by have := hS5.2.2.2.2.2.2.2.2.2.2.2.2.size; omega)) | exact (hb6.cell (cell_lt hS5.2.2.2.2.2.2.2.2.2.2.2.2)).trans hS5.2.2.2.2.2.2.2.2.2.2.2.2 | exact hS5.2.2.2.2.2.2.2.2.2.2.2.2.below hb6 (Nat.le_refl _) | exact hS5.2.2.2.2.2.2.2.2.2.2.2.2.low hb6 | exact hS5.2.2.2.2.2.2.2.2.2.2.2.2.below hb6 | exact hS5.2.2.2.2.2.2.2.2.2.2.2.2.trans (Only.of hb6))⟩ (fun hS6 => ?_)
  clear hK K
  have hT : Below w.heap.size w v6 ∧ v6.cell? ⟨gx, 0, none⟩ = some (.slice none 0 0) ∧ v6.cell? ⟨gx, 1, none⟩ = some (.slice none 0 0) ∧ v6.cell? ⟨gx, 2, none⟩ = some (.slice none 0 0) ∧ Blk v6 fv 48 #[.int .i64 0, .int .i64 0] ∧ LB v6 l o' n c' 0 Ln Up false ∧ EdgB v6 o' n St Ln Up l ∧ TB v6 t 0 0 false 3072 ∧ AB v6 bu 0 ∧ IB v6 ia 0 false ∧ PB v6 po gf 0 0 ∧ FB v6 gf o1 0 cc1 0 ∧ FB v6 vd o2 0 cc2 0 ∧ FB v6 vc o3 0 cc3 0 := ⟨hS6.1, hS6.2.1, hS6.2.2.1, hS6.2.2.2.1, hS6.2.2.2.2.1, hS6.2.2.2.2.2.1, hS6.2.2.2.2.2.2.1, hS6.2.2.2.2.2.2.2.1, hS6.2.2.2.2.2.2.2.2.1, hS6.2.2.2.2.2.2.2.2.2.1, hS6.2.2.2.2.2.2.2.2.2.2.1, hS6.2.2.2.2.2.2.2.2.2.2.2.1, hS6.2.2.2.2.2.2.2.2.2.2.2.2, hH1⟩
  refine wpAnyH_mono (S' := fun W => Below w.heap.size w W ∧ W.cell? ⟨gx, 0, none⟩ = some (.slice none 0 0) ∧ W.cell? ⟨gx, 1, none⟩ = some (.slice none 0 0) ∧ W.cell? ⟨gx, 2, none⟩ = some (.slice none 0 0) ∧ Blk W fv 48 #[.int .i64 0, .int .i64 0] ∧ LB W l o' n c' 0 Ln Up false ∧ EdgB W o' n St Ln Up l ∧ TB W t 0 0 false 3072 ∧ AB W bu 0 ∧ IB W ia 0 false ∧ PB W po gf 0 0 ∧ FB W gf o1 0 cc1 0 ∧ FB W vd o2 0 cc2 0 ∧ FB W vc o3 0 cc3 0) (fun _ h => ⟨h.1, h.2.1, h.2.2.1, h.2.2.2.1, h.2.2.2.2.1, h.2.2.2.2.2.1, h.2.2.2.2.2.2.1, h.2.2.2.2.2.2.2.1, h.2.2.2.2.2.2.2.2.1, h.2.2.2.2.2.2.2.2.2.1, h.2.2.2.2.2.2.2.2.2.2.1, h.2.2.2.2.2.2.2.2.2.2.2.1, h.2.2.2.2.2.2.2.2.2.2.2.2.1⟩) ?_
  clear hS6
  have hS6 := hT
  clear hT
  clear hb6 hS5
  simp only [List.getElem_toArray, List.getElem_cons_zero, List.getElem_cons_succ, Act.put, List.setIfInBounds_toArray, List.set_cons_zero, List.set_cons_succ]
  refine wpAnyH_take (i := 13) (v := ?_) rfl (by kernel_rfl) (by kernel_rfl) (by kernel_rfl) (fun _ _ _ h => h) (Or.inl ⟨by rfl, ?_⟩) hS6 ?_
  rotate_left
  · (intro w hSw; (try dsimp only at hSw); go_simp; try with_reducible rfl)
  simp only [List.getElem_toArray, List.getElem_cons_zero, List.getElem_cons_succ, Act.put, List.setIfInBounds_toArray, List.set_cons_zero, List.set_cons_succ]
  refine wpAnyH_ready (rs := [14]) (by kernel_rfl) (by simp) ?_
  refine AllReadyH.cons rfl (fun K hK => ?_) AllReadyH.nil
  go_simp
  have hb7 : Below v6.heap.size v6 (v6.alloc (.cells #[.pointer (some ⟨t, 0, none⟩), .pointer (some ⟨l, 0, none⟩), .pointer (some ⟨bu, 0, none⟩), .pointer (some ⟨ia, 0, none⟩), .pointer (some ⟨po, 0, none⟩), .pointer (some ⟨vd, 0, none⟩), .pointer (some ⟨vc, 0, none⟩), .int .i64 0] 95)) := Bl.alloc (Below.refl _ _) _
  refine hK.out _ _ ⟨(by first | exact hS6.1.trans (hb7.mono hS6.1.size) | exact hS6.1.trans (hb7.mono (by have := hS6.1.size; omega))), ((hb7.cell (cell_lt hS6.2.1)).trans hS6.2.1), ((hb7.cell (cell_lt hS6.2.2.1)).trans hS6.2.2.1), ((hb7.cell (cell_lt hS6.2.2.2.1)).trans hS6.2.2.2.1), (hS6.2.2.2.2.1.below hb7 hS6.2.2.2.2.1.lt), (by first | exact hS6.2.2.2.2.2.1.below hb7 hS6.2.2.2.2.2.1.lt | exact hS6.2.2.2.2.2.1.trans (hb7.mono hS6.2.2.2.2.2.1.size) | exact hS6.2.2.2.2.2.1.trans (hb7.mono (by have := hS6.2.2.2.2.2.1.size; omega)) | exact (hb7.cell (cell_lt hS6.2.2.2.2.2.1)).trans hS6.2.2.2.2.2.1 | exact hS6.2.2.2.2.2.1.below hb7 (Nat.le_refl _) | exact hS6.2.2.2.2.2.1.low hb7 | exact hS6.2.2.2.2.2.1.below hb7 | exact hS6.2.2.2.2.2.1.trans (Only.of hb7)), (by first | exact hS6.2.2.2.2.2.2.1.low hb7 | exact hS6.2.2.2.2.2.2.1.below hb7 (Nat.le_refl _)), (by first | exact hS6.2.2.2.2.2.2.2.1.below hb7 hS6.2.2.2.2.2.2.2.1.lt | exact hS6.2.2.2.2.2.2.2.1.trans (hb7.mono hS6.2.2.2.2.2.2.2.1.size) | exact hS6.2.2.2.2.2.2.2.1.trans (hb7.mono (by have := hS6.2.2.2.2.2.2.2.1.size; omega)) | exact (hb7.cell (cell_lt hS6.2.2.2.2.2.2.2.1)).trans hS6.2.2.2.2.2.2.2.1 | exact hS6.2.2.2.2.2.2.2.1.below hb7 (Nat.le_refl _) | exact hS6.2.2.2.2.2.2.2.1.low hb7 | exact hS6.2.2.2.2.2.2.2.1.below hb7 | exact hS6.2.2.2.2.2.2.2.1.trans (Only.of hb7)), (by first | exact hS6.2.2.2.2.2.2.2.2.1.below hb7 hS6.2.2.2.2.2.2.2.2.1.lt | exact hS6.2.2.2.2.2.2.2.2.1.trans (hb7.mono hS6.2.2.2.2.2.2.2.2.1.size) | exact hS6.2.2.2.2.2.2.2.2.1.trans (hb7.mono (by have := hS6.2.2.2.2.2.2.2.2.1.size; omega)) | exact (hb7.cell (cell_lt hS6.2.2.2.2.2.2.2.2.1)).trans hS6.2.2.2.2.2.2.2.2.1 | exact hS6.2.2.2.2.2.2.2.2.1.below hb7 (Nat.le_refl _) | exact hS6.2.2.2.2.2.2.2.2.1.low hb7 | exact hS6.2.2.2.2.2.2.2.2.1.below hb7 | exact hS6.2.2.2.2.2.2.2.2.1.trans (Only.of hb7)), (by first | exact hS6.2.2.2.2.2.2.2.2.2.1.below hb7 hS6.2.2.2.2.2.2.2.2.2.1.lt | exact hS6.2.2.2.2.2.2.2.2.2.1.trans (hb7.mono hS6.2.2.2.2.2.2.2.2.2.1.size) | exact hS6.2.2.2.2.2.2.2.2.2.1.trans (hb7.mono (by have := hS6.2.2.2.2.2.2.2.2.2.1.size; omega)) | exact (hb7.cell (cell_lt hS6.2.2.2.2.2.2.2.2.2.1)).trans hS6.2.2.2.2.2.2.2.2.2.1 | exact hS6.2.2.2.2.2.2.2.2.2.1.below hb7 (Nat.le_refl _) | exact hS6.2.2.2.2.2.2.2.2.2.1.low hb7 | exact hS6.2.2.2.2.2.2.2.2.2.1.below hb7 | exact hS6.2.2.2.2.2.2.2.2.2.1.trans (Only.of hb7)), (by first | exact hS6.2.2.2.2.2.2.2.2.2.2.1.below hb7 hS6.2.2.2.2.2.2.2.2.2.2.1.lt | exact hS6.2.2.2.2.2.2.2.2.2.2.1.trans (hb7.mono hS6.2.2.2.2.2.2.2.2.2.2.1.size) | exact hS6.2.2.2.2.2.2.2.2.2.2.1.trans (hb7.mono (by have := hS6.2.2.2.2.2.2.2.2.2.2.1.size; omega)) | exact (hb7.cell (cell_lt hS6.2.2.2.2.2.2.2.2.2.2.1)).trans hS6.2.2.2.2.2.2.2.2.2.2.1 | exact hS6.2.2.2.2.2.2.2.2.2.2.1.below hb7 (Nat.le_refl _) | exact hS6.2.2.2.2.2.2.2.2.2.2.1.low hb7 | exact hS6.2.2.2.2.2.2.2.2.2.2.1.below hb7 | exact hS6.2.2.2.2.2.2.2.2.2.2.1.trans (Only.of hb7)), (by first | exact hS6.2.2.2.2.2.2.2.2.2.2.2.1.below hb7 hS6.2.2.2.2.2.2.2.2.2.2.2.1.lt | exact hS6.2.2.2.2.2.2.2.2.2.2.2.1.trans (hb7.mono hS6.2.2.2.2.2.2.2.2.2.2.2.1.size) | exact hS6.2.2.2.2.2.2.2.2.2.2.2.1.trans (hb7.mono (by have := hS6.2.2.2.2.2.2.2.2.2.2.2.1.size; omega)) | exact (hb7.cell (cell_lt hS6.2.2.2.2.2.2.2.2.2.2.2.1)).trans hS6.2.2.2.2.2.2.2.2.2.2.2.1 | exact hS6.2.2.2.2.2.2.2.2.2.2.2.1.below hb7 (Nat.le_refl _) | exact hS6.2.2.2.2.2.2.2.2.2.2.2.1.low hb7 | exact hS6.2.2.2.2.2.2.2.2.2.2.2.1.below hb7 | exact hS6.2.2.2.2.2.2.2.2.2.2.2.1.trans (Only.of hb7)), (by first | exact hS6.2.2.2.2.2.2.2.2.2.2.2.2.1.below hb7 hS6.2.2.2.2.2.2.2.2.2.2.2.2.1.lt | exact hS6.2.2.2.2.2.2.2.2.2.2.2.2.1.trans (hb7.mono hS6.2.2.2.2.2.2.2.2.2.2.2.2.1.size) | exact hS6.2.2.2.2.2.2.2.2.2.2.2.2.1.trans (hb7.mono (by have := hS6.2.2.2.2.2.2.2.2.2.2.2.2.1.size; omega)) | exact (hb7.cell (cell_lt hS6.2.2.2.2.2.2.2.2.2.2.2.2.1)).trans hS6.2.2.2.2.2.2.2.2.2.2.2.2.1 | exact hS6.2.2.2.2.2.2.2.2.2.2.2.2.1.below hb7 (Nat.le_refl _) | exact hS6.2.2.2.2.2.2.2.2.2.2.2.2.1.low hb7 | exact hS6.2.2.2.2.2.2.2.2.2.2.2.2.1.below hb7 | exact hS6.2.2.2.2.2.2.2.2.2.2.2.2.1.trans (Only.of hb7)), (by first | exact hS6.2.2.2.2.2.2.2.2.2.2.2.2.2.below hb7 hS6.2.2.2.2.2.2.2.2.2.2.2.2.2.lt | exact hS6.2.2.2.2.2.2.2.2.2.2.2.2.2.trans (hb7.mono hS6.2.2.2.2.2.2.2.2.2.2.2.2.2.size) | exact hS6.2.2.2.2.2.2.2.2.2.2.2.2.2.trans (hb7.mono (by have := hS6.2.2.2.2.2.2.2.2.2.2.2.2.2.size; omega)) | exact (hb7.cell (cell_lt hS6.2.2.2.2.2.2.2.2.2.2.2.2.2)).trans hS6.2.2.2.2.2.2.2.2.2.2.2.2.2 | exact hS6.2.2.2.2.2.2.2.2.2.2.2.2.2.below hb7 (Nat.le_refl _) | exact hS6.2.2.2.2.2.2.2.2.2.2.2.2.2.low hb7 | exact hS6.2.2.2.2.2.2.2.2.2.2.2.2.2.below hb7 | exact hS6.2.2.2.2.2.2.2.2.2.2.2.2.2.trans (Only.of hb7))⟩ (fun hS7 => ?_)
  clear hK K
  have hW_7 : Blk (v6.alloc (.cells #[.pointer (some ⟨t, 0, none⟩), .pointer (some ⟨l, 0, none⟩), .pointer (some ⟨bu, 0, none⟩), .pointer (some ⟨ia, 0, none⟩), .pointer (some ⟨po, 0, none⟩), .pointer (some ⟨vd, 0, none⟩), .pointer (some ⟨vc, 0, none⟩), .int .i64 0] 95)) v6.heap.size 95 #[.pointer (some ⟨t, 0, none⟩), .pointer (some ⟨l, 0, none⟩), .pointer (some ⟨bu, 0, none⟩), .pointer (some ⟨ia, 0, none⟩), .pointer (some ⟨po, 0, none⟩), .pointer (some ⟨vd, 0, none⟩), .pointer (some ⟨vc, 0, none⟩), .int .i64 0] := Blk.new _ _ _
  have hvcp : vc < v6.heap.size := Blk.lt hS6.2.2.2.2.2.2.2.2.2.2.2.2.2
  have hlt_hz4_hW := hS6.2.2.2.2.1.lt
  have hge_p := hS6.1.size
  clear hb7 hS6
  generalize v6.alloc (.cells #[.pointer (some ⟨t, 0, none⟩), .pointer (some ⟨l, 0, none⟩), .pointer (some ⟨bu, 0, none⟩), .pointer (some ⟨ia, 0, none⟩), .pointer (some ⟨po, 0, none⟩), .pointer (some ⟨vd, 0, none⟩), .pointer (some ⟨vc, 0, none⟩), .int .i64 0] 95) = v7 at *
  generalize v6.heap.size = p at *
  simp only [List.getElem_toArray, List.getElem_cons_zero, List.getElem_cons_succ, Act.put, List.setIfInBounds_toArray, List.set_cons_zero, List.set_cons_succ]
  refine wpAnyH_take (i := 16) (v := ?_) rfl (by kernel_rfl) (by kernel_rfl) (by kernel_rfl) (fun _ _ _ h => h) (Or.inl ⟨by rfl, ?_⟩) hS7 ?_
  rotate_left
  · (intro w hSw; (try dsimp only at hSw); go_simp; try with_reducible rfl)
  simp only [List.getElem_toArray, List.getElem_cons_zero, List.getElem_cons_succ, Act.put, List.setIfInBounds_toArray, List.set_cons_zero, List.set_cons_succ]
  refine wpAnyH_ready (rs := [17]) (by kernel_rfl) (by simp) ?_
  refine AllReadyH.cons rfl (fun K hK => ?_) AllReadyH.nil
  rw [if_pos (show Region.wanted _ _ = true from by rfl)]
  refine wp_store_row 48 _ _ rfl fv #[.int .i64 0, .int .i64 0] rfl rfl 48 _ (hS7.2.2.2.2.1) (by kernel_rfl) rfl (by kernel_rfl) ?_
  rw [setRow_same (hS7.2.2.2.2.1)]
  refine hK.out _ _ hS7 (fun _ => ?_)
  clear hK K
  simp only [List.getElem_toArray, List.getElem_cons_zero, List.getElem_cons_succ, Act.put, List.setIfInBounds_toArray, List.set_cons_zero, List.set_cons_succ]
  refine wpAnyH_done (by kernel_rfl) ?_ _
  have hb04 := hS7.1
  have c0 := hS7.2.1
  have c1 := hS7.2.2.1
  have c2 := hS7.2.2.2.1
  have hz4 := hS7.2.2.2.2.1
  have hL4 := hS7.2.2.2.2.2.1
  have hE4 := hS7.2.2.2.2.2.2.1
  have hT := hS7.2.2.2.2.2.2.2.1
  have hA := hS7.2.2.2.2.2.2.2.2.1
  have hI := hS7.2.2.2.2.2.2.2.2.2.1
  have hP := hS7.2.2.2.2.2.2.2.2.2.2.1
  have hF := hS7.2.2.2.2.2.2.2.2.2.2.2.1
  have hG := hS7.2.2.2.2.2.2.2.2.2.2.2.2.1
  have hH := hS7.2.2.2.2.2.2.2.2.2.2.2.2.2
  clear hS7
  have hW := hW_7
  go_wp2_with fail
  exact bodyPost_ret (results_tc rfl rfl hz4 Tryz.underlying48 rfl (by kernel_rfl)) rfl ⟨p, t, l, bu, ia, po, gf, vd, vc, o', c', o1, cc1, o2, cc2, o3, cc3, rfl, hW, hT, hL4, hE4, hA, hI, hP, hF, hG, hH, ⟨hl0, hlt, htbu, hbua, hagf, hpo, hpvd, hvdc, hvcp⟩, hb04⟩
end Go.Proofs.YtplobngbjpgcgaaGreatDoor
end
