/-
  The texts Co2 of the proof of TopSums, as one file (they are merged by a program).
-/
import Derived.Test.YtplobngbjpgcgaaGreatDoorA18
import Derived.Test.YtplobngbjpgcgaaGreatDoorA20
section
/-
  A core and its bus: what six instructions see; read, write.
-/
namespace Go.Proofs.YtplobngbjpgcgaaGreatDoor
set_option linter.unusedSimpArgs false
set_option linter.unusedVariables false
set_option maxRecDepth 10000
open Go.RowKit Pl
/-- A core's cells. -/
def coV (a p pc b : Nat) : Array Value := #[.int .u8 (a : Int), .int .u8 0, .int .u8 0, .int .u8 0, .int .u8 (p : Int), .int .u16 (pc : Int), .int .u8 248, .int .u8 248, .int .u8 248, .int .u8 248, .int .u8 248, .int .u8 248, .int .u8 248, .int .u8 248, .int .u8 0, .bool false, .pointer (some ⟨b, 0, none⟩)]
/-- A core, its bus, all that both hold; n accesses are behind. -/
structure Sys (w : World) (D : DevA) (A : BusA) (base c : Nat) (a p pc n nr : Nat) (M : Nat → Nat) : Prop where
  B : ∃ np V, BusW w D A base (12 * (n : Int)) (n : Int) (5000 - (n : Int)) np nr n 0 (fun i => (M i : Int)) V ∧ 0 ≤ np ∧ np ≤ 12 * (n : Int)
  C : Blk w c 59 (coV a p pc A.b)
  hc : base ≤ c
/-- All stays but a bus, what it tells, and a core. -/
structure KeepC (D : DevA) (base c : Nat) (w w' : World) : Prop where
  b : Below D.l w w'
  k : ∀ k, k < w.heap.size → ¬ Bz D base k → ¬ AccB w k → k ≠ c → w'.heap[k]? = w.heap[k]?
section
variable {D : DevA} {A : BusA} {base c : Nat} {a p pc n nr : Nat} {M : Nat → Nat}
theorem KeepC.refl (w : World) : KeepC D base c w w := ⟨Below.refl _ _, fun _ _ _ _ _ => rfl⟩
theorem KeepC.trans {u v w : World} (x : KeepC D base c u v) (y : KeepC D base c v w) : KeepC D base c u w := ⟨x.b.trans y.b, fun k h1 h2 h3 h4 => by
  have e := x.k k h1 h2 h3 h4
  refine (y.k k (Nat.lt_of_lt_of_le h1 x.b.size) h2 ?_ h4).trans e
  rintro ⟨cs, fr, h⟩
  exact h3 ⟨cs, fr, e.symm.trans h⟩⟩
theorem KeepC.ofX {w w' : World} (hb : Below D.l w w') (h : KeepX D base w w') : KeepC D base c w w' := ⟨hb, fun k h1 h2 h3 _ => h.2 k h1 h2 h3⟩
theorem KeepC.low {w w' : World} (hl : D.l ≤ w.heap.size) (hb : Below w.heap.size w w') : KeepC D base c w w' := ⟨hb.mono hl, fun k h1 _ _ _ => hb.block k h1⟩
theorem KeepC.drew {w w' : World} (x : KeepC D base c w w') : KeepC D base c w w'.drew := ⟨Below.drew x.b, x.k⟩
theorem KeepC.set {w w' : World} (x : KeepC D base c w w') (hl : D.l ≤ c) (i : Nat) (v : Value) : KeepC D base c w (w'.setCell ⟨c, i, none⟩ v) :=
  ⟨x.b.setCell (p := ⟨c, i, none⟩) hl v, fun k h1 h2 h3 h4 => (Below.heap_setCell w' ⟨c, i, none⟩ v k (fun e => h4 e)).trans (x.k k h1 h2 h3 h4)⟩
theorem KeepC.blk {w w' : World} (h : KeepC D base c w w') {g : Nat} {t : TypeId} {cs : Array Value} (hB : Blk w g t cs) (hz : ¬ Bz D base g) (ht : t ≠ 234) (hg : g ≠ c) : Blk w' g t cs := by
  refine (h.k g hB.lt hz ?_ hg).trans hB
  rintro ⟨xs, fr, hx⟩
  unfold Blk at hB
  rw [hB] at hx
  cases hx
  exact ht rfl
theorem Sys.low {w w' : World} (x : Sys w D A base c a p pc n nr M) (hb : Below w.heap.size w w') : Sys w' D A base c a p pc n nr M := by
  obtain ⟨⟨np, V, h, h1, h2⟩, hC, hc⟩ := x
  exact ⟨⟨np, V, h.low hb, h1, h2⟩, Blk.below hC hb hC.lt, hc⟩
theorem Sys.drew {w : World} (x : Sys w D A base c a p pc n nr M) : Sys w.drew D A base c a p pc n nr M := x.low (Below.drew (Below.refl _ _))
theorem Sys.pl {w : World} (x : Sys w D A base c a p pc n nr M) : D.l ≤ c ∧ D.l ≤ w.heap.size ∧ base ≤ w.heap.size ∧ D.l < base := by
  obtain ⟨⟨np, V, h, _, _⟩, hC, hc⟩ := x
  have h1 := h.o
  have h2 := h.lp
  have h3 := hC.lt
  omega
/-- The core's registers change. -/
theorem Sys.set {w : World} (x : Sys w D A base c a p pc n nr M) (i : Nat) (v : Value) {a' p' pc' : Nat} (e : (coV a p pc A.b).setIfInBounds i v = coV a' p' pc' A.b) : Sys (w.setCell ⟨c, i, none⟩ v) D A base c a' p' pc' n nr M := by
  have hq := x.pl
  obtain ⟨⟨np, V, h, h1, h2⟩, hC, hc⟩ := x
  have ho : Only (fun j => j = c) w (w.setCell ⟨c, i, none⟩ v) := Only.setCell (S := fun j => j = c) (Only.refl _ _) ⟨c, i, none⟩ rfl v
  obtain ⟨o1, o2, o3, o4, o5, o6, o7⟩ := h.o
  have hl := h.lp
  refine ⟨⟨np, V, ?_, h1, h2⟩, e ▸ Blk.set_ hC i v, hc⟩
  obtain ⟨rows, hT⟩ := h.T
  refine ⟨Blk.only h.B ho (by omega), Blk.only h.C ho (by omega), h.R.only ho (by omega) (by omega), h.Dv.only ho (fun k e => Or.inr (by have e : k = c := e; omega)), ⟨rows, own_keep hT (fun g hg => ho.block g (own_lt hT hg) (fun e => ?_))⟩, o1, o2, o3, o4, o5, o6, Nat.le_trans o7 ho.size⟩
  have e : g = c := e
  subst e
  obtain ⟨_, cur, hk⟩ := own_blk hT hg
  unfold Blk at hC
  rw [hC] at hk
  cases hk
end
theorem updF_nat (M : Nat → Nat) (q v : Nat) : updF (fun i => (M i : Int)) q (v : Int) = fun i => ((upM M q v i : Nat) : Int) := by
  funext i
  unfold updF upM
  by_cases e : i = q
  · rw [if_pos e, if_pos e]
  · rw [if_neg e, if_neg e]
theorem stRange {w : World} {c a p pc b : Nat} (h : Blk w c 59 (coV a p pc b)) : MDL w c 0 [Value.int .u8 (a : Int), Value.int .u8 0, Value.int .u8 0, Value.int .u8 0, Value.int .u8 (p : Int), Value.int .u16 (pc : Int), Value.int .u8 248, Value.int .u8 248, Value.int .u8 248, Value.int .u8 248, Value.int .u8 248, Value.int .u8 248, Value.int .u8 248, Value.int .u8 248, Value.int .u8 0, Value.bool false] := MDL.of h (fun j v hj => by
  match j, hj with
  | 0, hj | 1, hj | 2, hj | 3, hj | 4, hj | 5, hj | 6, hj | 7, hj | 8, hj | 9, hj | 10, hj | 11, hj | 12, hj | 13, hj | 14, hj | 15, hj => exact hj
  | j + 16, hj => simp at hj)
set_option maxRecDepth 100000 in
set_option maxHeartbeats 4000000 in
theorem coRead_calls (D : DevA) (A : BusA) (base c a p pc n nr x kind : Nat) (M : Nat → Nat) (w : World) (hx : x < 65536) (hn : n ≤ 800) (hS : Sys w D A base c a p pc n nr M) :
    Calls Tryz.prog 44 #[.pointer (some ⟨c, 0, none⟩), .int .u16 (x : Int), .int .u8 (kind : Int)] w fun e w' => e = .returned (.int .u8 (M (x % 8192) : Int)) ∧ Sys w' D A base c a p pc (n + 1) nr M ∧ KeepC D base c w w' := by
  obtain ⟨⟨np, V, hB, hp1, hp2⟩, hC, hc⟩ := hS
  have hmd := stRange hC
  have c16 : w.cell? ⟨c, 16, none⟩ = some (.pointer (some ⟨A.b, 0, none⟩)) := Blk.cell hC 16
  have hlb : ¬ Bz D base c := fun h => by have := h.2; omega
  have hK0 : KeepX D base w w := KeepX.low (Below.refl _ _)
  have hL0 : Below D.l w w := Below.refl _ _
  go_enter Tryz.func44, Tryz.ntmps44
  go_wp2_with fail
  obtain ⟨w1, hw1⟩ : ∃ W, W = w := ⟨_, rfl⟩
  rw [← hw1] at hB hC hmd c16 ⊢
  have hK1 : KeepX D base w w1 := by rw [hw1]; exact hK0
  have hL1 : Below D.l w w1 := by rw [hw1]; exact hL0
  clear hw1 hK0 hL0
  refine wp_region_held_drew (S := fun W => MDL W c 0 [Value.int .u8 (a : Int), Value.int .u8 0, Value.int .u8 0, Value.int .u8 0, Value.int .u8 (p : Int), Value.int .u16 (pc : Int), Value.int .u8 248, Value.int .u8 248, Value.int .u8 248, Value.int .u8 248, Value.int .u8 248, Value.int .u8 248, Value.int .u8 248, Value.int .u8 248, Value.int .u8 0, Value.bool false] ∧ W.cell? ⟨c, 16, none⟩ = some (.pointer (some ⟨A.b, 0, none⟩))) (by kernel_rfl) ⟨(by first | exact hmd.drew | exact hmd | exact Below.drew hmd), (by first | exact c16.drew | exact c16 | exact Below.drew c16)⟩ (fun hS0 => ?_)
  have hB_0 : BusW w1.drew D A base (12 * (n : Int)) (n : Int) (5000 - (n : Int)) np nr n 0 (fun i => (M i : Int)) V := by first | exact hB.drew | exact hB
  have hC_0 : Blk w1.drew c 59 (coV a p pc A.b) := by first | exact hC.drew | exact hC
  have hK1_0 : KeepX D base w w1.drew := by first | exact hK1.drew | exact hK1
  have hL1_0 : Below D.l w w1.drew := by first | exact hL1.drew | exact hL1
  clear hmd c16 hB hC hK1 hL1
  change wpAnyH _ _ _ _ _ 13 #[false, false, false, false, false, false, false, false, false, false, false, false, false] _ _
  generalize w1.drew = v0 at *
  refine wpAnyH_take (i := 0) (v := ?_) rfl (by kernel_rfl) (by kernel_rfl) (by kernel_rfl) (fun _ _ _ h => h) (Or.inl ⟨by rfl, ?_⟩) hS0 ?_
  rotate_left
  · (intro w hSw; (try dsimp only at hSw); go_simp; try with_reducible rfl)
  simp only [List.getElem_toArray, List.getElem_cons_zero, List.getElem_cons_succ, Act.put, List.setIfInBounds_toArray, List.set_cons_zero, List.set_cons_succ]
  refine wpAnyH_take (i := 1) (v := ?_) rfl (by kernel_rfl) (by kernel_rfl) (by kernel_rfl) (fun _ _ _ h => h) (Or.inl ⟨by rfl, ?_⟩) hS0 ?_
  rotate_left
  · (intro w hSw; (try dsimp only at hSw); go_simp; try with_reducible rfl)
  simp only [List.getElem_toArray, List.getElem_cons_zero, List.getElem_cons_succ, Act.put, List.setIfInBounds_toArray, List.set_cons_zero, List.set_cons_succ]
  refine wpAnyH_take (i := 2) (v := ?_) rfl (by kernel_rfl) (by kernel_rfl) (by kernel_rfl) (fun _ _ _ h => h) (Or.inl ⟨by rfl, ?_⟩) hS0 ?_
  rotate_left
  · (intro w hSw; (try dsimp only at hSw); go_simp; try with_reducible rfl)
  simp only [List.getElem_toArray, List.getElem_cons_zero, List.getElem_cons_succ, Act.put, List.setIfInBounds_toArray, List.set_cons_zero, List.set_cons_succ]
  refine wpAnyH_take (i := 3) (v := ?_) rfl (by kernel_rfl) (by kernel_rfl) (by kernel_rfl) (fun _ _ _ h => h) (Or.inl ⟨by rfl, ?_⟩) hS0 ?_
  rotate_left
  · (intro w hSw; (try dsimp only at hSw); go_simp; try with_reducible rfl)
  simp only [List.getElem_toArray, List.getElem_cons_zero, List.getElem_cons_succ, Act.put, List.setIfInBounds_toArray, List.set_cons_zero, List.set_cons_succ]
  refine wpAnyH_take (i := 4) (v := ?_) rfl (by kernel_rfl) (by kernel_rfl) (by kernel_rfl) (fun _ _ _ h => h) (Or.inl ⟨by rfl, ?_⟩) hS0 ?_
  rotate_left
  · (intro w hSw; (try dsimp only at hSw); go_simp; try with_reducible rfl)
  simp only [List.getElem_toArray, List.getElem_cons_zero, List.getElem_cons_succ, Act.put, List.setIfInBounds_toArray, List.set_cons_zero, List.set_cons_succ]
  refine wpAnyH_take (i := 5) (v := ?_) rfl (by kernel_rfl) (by kernel_rfl) (by kernel_rfl) (fun _ _ _ h => h) (Or.inl ⟨by rfl, ?_⟩) hS0 ?_
  rotate_left
  · (intro w hSw; (try dsimp only at hSw); go_simp; try with_reducible rfl)
  simp only [List.getElem_toArray, List.getElem_cons_zero, List.getElem_cons_succ, Act.put, List.setIfInBounds_toArray, List.set_cons_zero, List.set_cons_succ]
  refine wpAnyH_take (i := 6) (v := ?_) rfl (by kernel_rfl) (by kernel_rfl) (by kernel_rfl) (fun _ _ _ h => h) (Or.inl ⟨by rfl, ?_⟩) hS0 ?_
  rotate_left
  · (intro w hSw; (try dsimp only at hSw); go_simp; try with_reducible rfl)
  simp only [List.getElem_toArray, List.getElem_cons_zero, List.getElem_cons_succ, Act.put, List.setIfInBounds_toArray, List.set_cons_zero, List.set_cons_succ]
  refine wpAnyH_take (i := 7) (v := .agg ([Value.int .u8 (a : Int), Value.int .u8 0, Value.int .u8 0, Value.int .u8 0, Value.int .u8 (p : Int), Value.int .u16 (pc : Int), Value.int .u8 248, Value.int .u8 248, Value.int .u8 248, Value.int .u8 248, Value.int .u8 248, Value.int .u8 248, Value.int .u8 248, Value.int .u8 248, Value.int .u8 0, Value.bool false] : List Value).toArray) rfl (by kernel_rfl) (by kernel_rfl) (by kernel_rfl) (fun _ _ _ h => h) (yieldsIf_load_mid (by rfl) 32 _ rfl c 0 rfl [Value.int .u8 (a : Int), Value.int .u8 0, Value.int .u8 0, Value.int .u8 0, Value.int .u8 (p : Int), Value.int .u16 (pc : Int), Value.int .u8 248, Value.int .u8 248, Value.int .u8 248, Value.int .u8 248, Value.int .u8 248, Value.int .u8 248, Value.int .u8 248, Value.int .u8 248, Value.int .u8 0, Value.bool false] _ (fun _ h => (h.1).1) Tryz.underlying32 rfl (by kernel_rfl)) hS0 ?_
  simp only [List.getElem_toArray, List.getElem_cons_zero, List.getElem_cons_succ, Act.put, List.setIfInBounds_toArray, List.set_cons_zero, List.set_cons_succ]
  refine wpAnyH_take (i := 8) (v := ?_) rfl (by kernel_rfl) (by kernel_rfl) (by kernel_rfl) (fun _ _ _ h => h) (Or.inl ⟨by rfl, ?_⟩) hS0 ?_
  rotate_left
  · (intro w hSw; (try dsimp only at hSw); go_simp; try with_reducible rfl)
  simp only [List.getElem_toArray, List.getElem_cons_zero, List.getElem_cons_succ, Act.put, List.setIfInBounds_toArray, List.set_cons_zero, List.set_cons_succ]
  refine wpAnyH_take (i := 9) (v := ?_) rfl (by kernel_rfl) (by kernel_rfl) (by kernel_rfl) (fun _ _ _ h => h) (Or.inl ⟨by rfl, ?_⟩) hS0 ?_
  rotate_left
  · (intro w hSw; (try dsimp only at hSw); go_simp; try with_reducible rfl)
  simp only [List.getElem_toArray, List.getElem_cons_zero, List.getElem_cons_succ, Act.put, List.setIfInBounds_toArray, List.set_cons_zero, List.set_cons_succ]
  refine wpAnyH_take (i := 10) (v := ?_) rfl (by kernel_rfl) (by kernel_rfl) (by kernel_rfl) (fun _ _ _ h => h) (Or.inl ⟨by rfl, ?_⟩) hS0 ?_
  rotate_left
  · (intro w hSw; (try dsimp only at hSw); go_simp; try with_reducible rfl)
  simp only [List.getElem_toArray, List.getElem_cons_zero, List.getElem_cons_succ, Act.put, List.setIfInBounds_toArray, List.set_cons_zero, List.set_cons_succ]
  refine wpAnyH_ready (rs := [11]) (by kernel_rfl) (by simp) ?_
  refine AllReadyH.cons rfl (fun K hK => ?_) AllReadyH.nil
  go_simp
  refine (acRead_calls D A base nr n 0 a p pc x _ _ _ np kind _ V _ hx (by omega) (by omega) (by omega) hp1 hp2 (by omega) (by omega) (by omega) hB_0).mono ?_
  rintro e v1 ⟨rfl, ⟨V2, q1⟩, q2, q3⟩
  have hCN := KeepX.blk q3 hC_0 hlb (by decide)
  have hKN := KeepX.trans hK1_0 q3
  have hLN := Below.trans hL1_0 q2
  (try go_simp)
  refine hK.out _ _ ⟨stRange hCN, Blk.cell hCN 16⟩ (fun hS1 => ?_)
  clear hK K hS0
  simp only [List.getElem_toArray, List.getElem_cons_zero, List.getElem_cons_succ, Act.put, List.setIfInBounds_toArray, List.set_cons_zero, List.set_cons_succ]
  refine wpAnyH_take (i := 12) (v := ?_) rfl (by kernel_rfl) (by kernel_rfl) (by kernel_rfl) (fun _ _ _ h => h) (Or.inl ⟨by rfl, ?_⟩) hS1 ?_
  rotate_left
  · (intro w hSw; (try dsimp only at hSw); go_simp; try with_reducible rfl)
  simp only [List.getElem_toArray, List.getElem_cons_zero, List.getElem_cons_succ, Act.put, List.setIfInBounds_toArray, List.set_cons_zero, List.set_cons_succ]
  refine wpAnyH_done (by kernel_rfl) ?_ _
  have hmd := hS1.1
  have c16 := hS1.2
  clear hS1
  rw [show 12 * (n : Int) + 12 = 12 * ((n + 1 : Nat) : Int) by omega, show (n : Int) + 1 = ((n + 1 : Nat) : Int) by omega, show 5000 - (n : Int) - 1 = 5000 - ((n + 1 : Nat) : Int) by omega] at q1
  clear hmd c16
  go_wp2_with fail
  go_ret
  exact ⟨rfl, ⟨⟨_, V2, q1, by omega, by omega⟩, hCN, hc⟩, KeepC.ofX hLN hKN⟩
set_option maxRecDepth 100000 in
set_option maxHeartbeats 4000000 in
theorem coWrite_calls (D : DevA) (A : BusA) (base c a p pc n nr x v kind : Nat) (M : Nat → Nat) (w : World) (hx : x < 65536) (hn : n ≤ 800) (hr : nr < 100000) (hS : Sys w D A base c a p pc n nr M) :
    Calls Tryz.prog 91 #[.pointer (some ⟨c, 0, none⟩), .int .u16 (x : Int), .int .u8 (v : Int), .int .u8 (kind : Int)] w fun e w' => e = .returned (.tuple #[]) ∧ Sys w' D A base c a p pc (n + 1) (nr + 1) (upM M (x % 8192) v) ∧ KeepC D base c w w' := by
  obtain ⟨⟨np, V, hB, hp1, hp2⟩, hC, hc⟩ := hS
  have hmd := stRange hC
  have c16 : w.cell? ⟨c, 16, none⟩ = some (.pointer (some ⟨A.b, 0, none⟩)) := Blk.cell hC 16
  have hlb : ¬ Bz D base c := fun h => by have := h.2; omega
  have hK0 : KeepX D base w w := KeepX.low (Below.refl _ _)
  have hL0 : Below D.l w w := Below.refl _ _
  go_enter Tryz.func91, Tryz.ntmps91
  have hK1 := hK0
  have hL1 := hL0
  clear hK0 hL0
  go_wp2_with fail
  refine wp_region_held_drew (S := fun W => MDL W c 0 [Value.int .u8 (a : Int), Value.int .u8 0, Value.int .u8 0, Value.int .u8 0, Value.int .u8 (p : Int), Value.int .u16 (pc : Int), Value.int .u8 248, Value.int .u8 248, Value.int .u8 248, Value.int .u8 248, Value.int .u8 248, Value.int .u8 248, Value.int .u8 248, Value.int .u8 248, Value.int .u8 0, Value.bool false] ∧ W.cell? ⟨c, 16, none⟩ = some (.pointer (some ⟨A.b, 0, none⟩))) (by kernel_rfl) ⟨(by first | exact hmd.drew | exact hmd | exact Below.drew hmd), (by first | exact c16.drew | exact c16 | exact Below.drew c16)⟩ (fun hS0 => ?_)
  have hB_0 : BusW w.drew D A base (12 * (n : Int)) (n : Int) (5000 - (n : Int)) np nr n 0 (fun i => (M i : Int)) V := by first | exact hB.drew | exact hB
  have hC_0 : Blk w.drew c 59 (coV a p pc A.b) := by first | exact hC.drew | exact hC
  have hK1_0 : KeepX D base w w.drew := by first | exact hK1.drew | exact hK1
  have hL1_0 : Below D.l w w.drew := by first | exact hL1.drew | exact hL1
  clear hmd c16 hB hC hK1 hL1
  change wpAnyH _ _ _ _ _ 13 #[false, false, false, false, false, false, false, false, false, false, false, false, false] _ _
  generalize w.drew = v0 at *
  refine wpAnyH_take (i := 0) (v := ?_) rfl (by kernel_rfl) (by kernel_rfl) (by kernel_rfl) (fun _ _ _ h => h) (Or.inl ⟨by rfl, ?_⟩) hS0 ?_
  rotate_left
  · (intro w hSw; (try dsimp only at hSw); go_simp; try with_reducible rfl)
  simp only [List.getElem_toArray, List.getElem_cons_zero, List.getElem_cons_succ, Act.put, List.setIfInBounds_toArray, List.set_cons_zero, List.set_cons_succ]
  refine wpAnyH_take (i := 1) (v := ?_) rfl (by kernel_rfl) (by kernel_rfl) (by kernel_rfl) (fun _ _ _ h => h) (Or.inl ⟨by rfl, ?_⟩) hS0 ?_
  rotate_left
  · (intro w hSw; (try dsimp only at hSw); go_simp; try with_reducible rfl)
  simp only [List.getElem_toArray, List.getElem_cons_zero, List.getElem_cons_succ, Act.put, List.setIfInBounds_toArray, List.set_cons_zero, List.set_cons_succ]
  refine wpAnyH_take (i := 2) (v := ?_) rfl (by kernel_rfl) (by kernel_rfl) (by kernel_rfl) (fun _ _ _ h => h) (Or.inl ⟨by rfl, ?_⟩) hS0 ?_
  rotate_left
  · (intro w hSw; (try dsimp only at hSw); go_simp; try with_reducible rfl)
  simp only [List.getElem_toArray, List.getElem_cons_zero, List.getElem_cons_succ, Act.put, List.setIfInBounds_toArray, List.set_cons_zero, List.set_cons_succ]
  refine wpAnyH_take (i := 3) (v := ?_) rfl (by kernel_rfl) (by kernel_rfl) (by kernel_rfl) (fun _ _ _ h => h) (Or.inl ⟨by rfl, ?_⟩) hS0 ?_
  rotate_left
  · (intro w hSw; (try dsimp only at hSw); go_simp; try with_reducible rfl)
  simp only [List.getElem_toArray, List.getElem_cons_zero, List.getElem_cons_succ, Act.put, List.setIfInBounds_toArray, List.set_cons_zero, List.set_cons_succ]
  refine wpAnyH_take (i := 4) (v := ?_) rfl (by kernel_rfl) (by kernel_rfl) (by kernel_rfl) (fun _ _ _ h => h) (Or.inl ⟨by rfl, ?_⟩) hS0 ?_
  rotate_left
  · (intro w hSw; (try dsimp only at hSw); go_simp; try with_reducible rfl)
  simp only [List.getElem_toArray, List.getElem_cons_zero, List.getElem_cons_succ, Act.put, List.setIfInBounds_toArray, List.set_cons_zero, List.set_cons_succ]
  refine wpAnyH_take (i := 5) (v := ?_) rfl (by kernel_rfl) (by kernel_rfl) (by kernel_rfl) (fun _ _ _ h => h) (Or.inl ⟨by rfl, ?_⟩) hS0 ?_
  rotate_left
  · (intro w hSw; (try dsimp only at hSw); go_simp; try with_reducible rfl)
  simp only [List.getElem_toArray, List.getElem_cons_zero, List.getElem_cons_succ, Act.put, List.setIfInBounds_toArray, List.set_cons_zero, List.set_cons_succ]
  refine wpAnyH_take (i := 6) (v := ?_) rfl (by kernel_rfl) (by kernel_rfl) (by kernel_rfl) (fun _ _ _ h => h) (Or.inl ⟨by rfl, ?_⟩) hS0 ?_
  rotate_left
  · (intro w hSw; (try dsimp only at hSw); go_simp; try with_reducible rfl)
  simp only [List.getElem_toArray, List.getElem_cons_zero, List.getElem_cons_succ, Act.put, List.setIfInBounds_toArray, List.set_cons_zero, List.set_cons_succ]
  refine wpAnyH_take (i := 7) (v := .agg ([Value.int .u8 (a : Int), Value.int .u8 0, Value.int .u8 0, Value.int .u8 0, Value.int .u8 (p : Int), Value.int .u16 (pc : Int), Value.int .u8 248, Value.int .u8 248, Value.int .u8 248, Value.int .u8 248, Value.int .u8 248, Value.int .u8 248, Value.int .u8 248, Value.int .u8 248, Value.int .u8 0, Value.bool false] : List Value).toArray) rfl (by kernel_rfl) (by kernel_rfl) (by kernel_rfl) (fun _ _ _ h => h) (yieldsIf_load_mid (by rfl) 32 _ rfl c 0 rfl [Value.int .u8 (a : Int), Value.int .u8 0, Value.int .u8 0, Value.int .u8 0, Value.int .u8 (p : Int), Value.int .u16 (pc : Int), Value.int .u8 248, Value.int .u8 248, Value.int .u8 248, Value.int .u8 248, Value.int .u8 248, Value.int .u8 248, Value.int .u8 248, Value.int .u8 248, Value.int .u8 0, Value.bool false] _ (fun _ h => (h.1).1) Tryz.underlying32 rfl (by kernel_rfl)) hS0 ?_
  simp only [List.getElem_toArray, List.getElem_cons_zero, List.getElem_cons_succ, Act.put, List.setIfInBounds_toArray, List.set_cons_zero, List.set_cons_succ]
  refine wpAnyH_take (i := 8) (v := ?_) rfl (by kernel_rfl) (by kernel_rfl) (by kernel_rfl) (fun _ _ _ h => h) (Or.inl ⟨by rfl, ?_⟩) hS0 ?_
  rotate_left
  · (intro w hSw; (try dsimp only at hSw); go_simp; try with_reducible rfl)
  simp only [List.getElem_toArray, List.getElem_cons_zero, List.getElem_cons_succ, Act.put, List.setIfInBounds_toArray, List.set_cons_zero, List.set_cons_succ]
  refine wpAnyH_take (i := 9) (v := ?_) rfl (by kernel_rfl) (by kernel_rfl) (by kernel_rfl) (fun _ _ _ h => h) (Or.inl ⟨by rfl, ?_⟩) hS0 ?_
  rotate_left
  · (intro w hSw; (try dsimp only at hSw); go_simp; try with_reducible rfl)
  simp only [List.getElem_toArray, List.getElem_cons_zero, List.getElem_cons_succ, Act.put, List.setIfInBounds_toArray, List.set_cons_zero, List.set_cons_succ]
  refine wpAnyH_take (i := 10) (v := ?_) rfl (by kernel_rfl) (by kernel_rfl) (by kernel_rfl) (fun _ _ _ h => h) (Or.inl ⟨by rfl, ?_⟩) hS0 ?_
  rotate_left
  · (intro w hSw; (try dsimp only at hSw); go_simp; try with_reducible rfl)
  simp only [List.getElem_toArray, List.getElem_cons_zero, List.getElem_cons_succ, Act.put, List.setIfInBounds_toArray, List.set_cons_zero, List.set_cons_succ]
  refine wpAnyH_take (i := 11) (v := ?_) rfl (by kernel_rfl) (by kernel_rfl) (by kernel_rfl) (fun _ _ _ h => h) (Or.inl ⟨by rfl, ?_⟩) hS0 ?_
  rotate_left
  · (intro w hSw; (try dsimp only at hSw); go_simp; try with_reducible rfl)
  simp only [List.getElem_toArray, List.getElem_cons_zero, List.getElem_cons_succ, Act.put, List.setIfInBounds_toArray, List.set_cons_zero, List.set_cons_succ]
  refine wpAnyH_ready (rs := [12]) (by kernel_rfl) (by simp) ?_
  refine AllReadyH.cons rfl (fun K hK => ?_) AllReadyH.nil
  go_simp
  refine (acWrite_calls D A base nr n 0 a p pc x _ _ _ np kind v _ V _ hx (by omega) hr (by omega) (by omega) hp1 hp2 (by omega) (by omega) (by omega) hB_0).mono ?_
  rintro e v1 ⟨rfl, ⟨V2, q1⟩, q2, q3⟩
  have hCN := KeepX.blk q3 hC_0 hlb (by decide)
  have hKN := KeepX.trans hK1_0 q3
  have hLN := Below.trans hL1_0 q2
  (try go_simp)
  refine hK.out _ _ ⟨stRange hCN, Blk.cell hCN 16⟩ (fun hS1 => ?_)
  clear hK K hS0
  simp only [List.getElem_toArray, List.getElem_cons_zero, List.getElem_cons_succ, Act.put, List.setIfInBounds_toArray, List.set_cons_zero, List.set_cons_succ]
  refine wpAnyH_done (by kernel_rfl) ?_ _
  have hmd := hS1.1
  have c16 := hS1.2
  clear hS1
  rw [updF_nat, show 12 * (n : Int) + 12 = 12 * ((n + 1 : Nat) : Int) by omega, show (n : Int) + 1 = ((n + 1 : Nat) : Int) by omega, show 5000 - (n : Int) - 1 = 5000 - ((n + 1 : Nat) : Int) by omega] at q1
  clear hmd c16
  go_wp2_with fail
  go_end0
  exact ⟨rfl, ⟨⟨_, V2, q1, by omega, by omega⟩, hCN, hc⟩, KeepC.ofX hLN hKN⟩
end Go.Proofs.YtplobngbjpgcgaaGreatDoor
end
