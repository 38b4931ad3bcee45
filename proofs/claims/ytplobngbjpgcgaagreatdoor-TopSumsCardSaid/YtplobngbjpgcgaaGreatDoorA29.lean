/-
  The texts Co6 of the proof of TopSums, as one file (they are merged by a program).
-/
import Derived.Test.YtplobngbjpgcgaaGreatDoorA28
section
/-
  A core: loads, stores, do.
-/
namespace Go.Proofs.YtplobngbjpgcgaaGreatDoor
set_option linter.unusedSimpArgs false
set_option linter.unusedVariables false
set_option maxRecDepth 10000
open Go.RowKit Pl
theorem KeepC.box {D : DevA} {base c : Nat} {w w' : World} (h : KeepC D base c w w') {g : Nat} {cs : Array Value} {t : TypeId} (hB : Blk w g t cs) (hg : base ≤ g) (ht : t ≠ 234) (hc : g ≠ c) : Blk w' g t cs :=
  h.blk hB (fun hz => by have := hz.2; omega) ht hc
set_option maxRecDepth 100000 in
set_option maxHeartbeats 4000000 in
theorem loadsLda (D : DevA) (A : BusA) (base c a p pc n nr v : Nat) (cy : Int) (t : Bool) (s : Value) (M : Nat → Nat) (w : World) (hx : pc < 65536) (hn : n ≤ 690) (hp : p < 256) (hv : v < 256) (hM : M v < 256) (hO : Opd w base c s v) (hS : Sys w D A base c a p pc n nr M) :
    Calls Tryz.prog 63 #[.pointer (some ⟨c, 0, none⟩), .agg #[(.string ⟨#[76, 68, 65]⟩), .int .u8 2, .int .i64 2, .int .i64 cy], s, .bool t] w fun e w' => e = .returned (.bool true) ∧ Sys w' D A base c (M v) (fres p (M v)) pc (n + 2) nr M ∧ KeepC D base c w w' := by
  have hpl := hS.pl
  have hcw := hS.C.lt
  have hba : Below w.heap.size w (w.alloc (.cells #[(.string ⟨#[76, 68, 65]⟩), .int .u8 2, .int .i64 2, .int .i64 cy] 62)) := Bl.alloc (Below.refl _ _) _
  have hb : Blk (w.alloc (.cells #[(.string ⟨#[76, 68, 65]⟩), .int .u8 2, .int .i64 2, .int .i64 cy] 62)) w.heap.size 62 #[(.string ⟨#[76, 68, 65]⟩), .int .u8 2, .int .i64 2, .int .i64 cy] := Blk.new _ _ _
  have hS0 := hS.low hba
  have hO0 := hO.low hba
  have hK0 : KeepC D base c w (w.alloc (.cells #[(.string ⟨#[76, 68, 65]⟩), .int .u8 2, .int .i64 2, .int .i64 cy] 62)) := KeepC.low hpl.2.1 hba
  obtain ⟨g, cap, cur, rfl, hgB, hg0, hg1, hg2⟩ := hO
  have cg : (w.alloc (.cells #[(.string ⟨#[76, 68, 65]⟩), .int .u8 2, .int .i64 2, .int .i64 cy] 62)).cell? ⟨g, 0, none⟩ = some (.int .u8 (v : Int)) := (Blk.cell (Blk.below hgB hba hgB.lt) 0).trans hg0
  have hpc := coPlace_calls D A base c a p pc n nr v _ M _ hx (by omega) hv hO0 hS0
  have hrd := fun W (h : Sys W D A base c a p pc (n + 1) nr M) => coRead_calls D A base c a p pc (n + 1) nr (8192 + v) 3 M W (by omega) (by omega) h
  rw [show (8192 + v) % 8192 = v by omega] at hrd
  have hbge : base ≤ w.heap.size := hpl.2.2.1
  have hbc : w.heap.size ≠ c := by omega
  clear hS hO0 hgB hg0 hg1 hg2 hba
  generalize M v = x at *
  obtain ⟨go, hgo⟩ : ∃ x, w.heap.size = x := ⟨_, rfl⟩
  rw [hgo] at hb hbge hbc
  go_enter Tryz.func63, Tryz.ntmps63
  go_wp2_with fail
  clear hgo
  generalize w.alloc (.cells #[(.string ⟨#[76, 68, 65]⟩), .int .u8 2, .int .i64 2, .int .i64 cy] 62) = w0 at *
  refine Cl.p (readsLda _) ?_
  have b0 : w0.cell? ⟨go, 0, none⟩ = some (.string ⟨#[76, 68, 65]⟩) := Blk.cell hb 0
  have b1 : w0.cell? ⟨go, 1, none⟩ = some (.int .u8 2) := Blk.cell hb 1
  go_wp2_with fail
  refine hpc.mono ?_
  clear hpc cg b0 b1
  rintro e w1 ⟨rfl, hS1, hK1⟩
  have hb1 := hK1.box hb hbge (by decide) hbc
  have hK01 := hK0.trans hK1
  have hr := hrd w1 hS1
  clear hb hS0 hK0 hK1 hrd hS1
  go_wp2_with fail
  refine hr.mono ?_
  clear hr
  rintro e w2 ⟨rfl, hS2, hK2⟩
  have hb2 := hK2.box hb1 hbge (by decide) hbc
  have hK02 := hK01.trans hK2
  have b0 : w2.cell? ⟨go, 0, none⟩ = some (.string ⟨#[76, 68, 65]⟩) := Blk.cell hb2 0
  clear hb1 hK01 hK2
  go_wp2_with fail
  refine wp_region_held_drew (S := fun W => W.cell? ⟨go, 0, none⟩ = some (.string ⟨#[76, 68, 65]⟩)) (by kernel_rfl) (by first | exact b0.drew | exact b0 | exact Below.drew b0) (fun hS0 => ?_)
  have hb2_0 : Blk w2.drew go 62 #[(.string ⟨#[76, 68, 65]⟩), .int .u8 2, .int .i64 2, .int .i64 cy] := by first | exact hb2.drew | exact hb2
  have hS2_0 : Sys w2.drew D A base c a p pc (n + 1 + 1) nr M := by first | exact hS2.drew | exact hS2
  have hK02_0 : KeepC D base c w w2.drew := by first | exact hK02.drew | exact hK02
  clear b0 hb2 hS2 hK02
  change wpAnyH _ _ _ _ _ 8 #[false, false, false, false, false, false, false, false] _ _
  generalize w2.drew = v0 at *
  refine wpAnyH_take (i := 0) (v := ?_) rfl (by kernel_rfl) (by kernel_rfl) (by kernel_rfl) (fun _ _ _ h => h) (Or.inl ⟨by rfl, ?_⟩) hS0 ?_
  rotate_left
  · (intro w hSw; (try dsimp only at hSw); go_simp; try with_reducible rfl)
  simp only [List.getElem_toArray, List.getElem_cons_zero, List.getElem_cons_succ, Act.put, List.setIfInBounds_toArray, List.set_cons_zero, List.set_cons_succ]
  refine wpAnyH_take (i := 1) (v := ?_) rfl (by kernel_rfl) (by kernel_rfl) (by kernel_rfl) (fun _ _ _ h => h) (Or.inl ⟨by rfl, ?_⟩) hS0 ?_
  rotate_left
  · (intro w hSw; (try dsimp only at hSw); go_simp; try with_reducible rfl)
  simp only [List.getElem_toArray, List.getElem_cons_zero, List.getElem_cons_succ, Act.put, List.setIfInBounds_toArray, List.set_cons_zero, List.set_cons_succ]
  refine wpAnyH_take (i := 2) (v := ?_) rfl (by kernel_rfl) (by kernel_rfl) (by kernel_rfl) (fun _ _ _ h => h) (Or.inl ⟨by rfl, ?_⟩) hS0 ?_
  rotate_left
  · (intro w hSw; (try dsimp only at hSw); go_simp; try with_reducible rfl)
  simp only [List.getElem_toArray, List.getElem_cons_zero, List.getElem_cons_succ, Act.put, List.setIfInBounds_toArray, List.set_cons_zero, List.set_cons_succ]
  refine wpAnyH_take (i := 3) (v := ?_) rfl (by kernel_rfl) (by kernel_rfl) (by kernel_rfl) (fun _ _ _ h => h) (Or.inl ⟨by rfl, ?_⟩) hS0 ?_
  rotate_left
  · (intro w hSw; (try dsimp only at hSw); go_simp; try with_reducible rfl)
  simp only [List.getElem_toArray, List.getElem_cons_zero, List.getElem_cons_succ, Act.put, List.setIfInBounds_toArray, List.set_cons_zero, List.set_cons_succ]
  refine wpAnyH_take (i := 4) (v := ?_) rfl (by kernel_rfl) (by kernel_rfl) (by kernel_rfl) (fun _ _ _ h => h) (Or.inl ⟨by rfl, ?_⟩) hS0 ?_
  rotate_left
  · (intro w hSw; (try dsimp only at hSw); go_simp; try with_reducible rfl)
  simp only [List.getElem_toArray, List.getElem_cons_zero, List.getElem_cons_succ, Act.put, List.setIfInBounds_toArray, List.set_cons_zero, List.set_cons_succ]
  refine wpAnyH_take (i := 5) (v := ?_) rfl (by kernel_rfl) (by kernel_rfl) (by kernel_rfl) (fun _ _ _ h => h) (Or.inl ⟨by rfl, ?_⟩) hS0 ?_
  rotate_left
  · (intro w hSw; (try dsimp only at hSw); go_simp; try with_reducible rfl)
  simp only [List.getElem_toArray, List.getElem_cons_zero, List.getElem_cons_succ, Act.put, List.setIfInBounds_toArray, List.set_cons_zero, List.set_cons_succ]
  refine wpAnyH_ready (rs := [6]) (by kernel_rfl) (by simp) ?_
  refine AllReadyH.cons rfl (fun K hK => ?_) AllReadyH.nil
  go_simp
  refine (coPut_calls D A base c a p pc (n + 1 + 1) nr M _ x hp hM hS2_0).mono ?_
  rintro e v1 ⟨rfl, q1, q2⟩
  have hbN := KeepC.box q2 hb2_0 hbge (by decide) hbc
  have hKN := KeepC.trans hK02_0 q2
  (try go_simp)
  refine hK.out _ _ (Blk.cell hbN 0) (fun hS1 => ?_)
  clear hK K hS0
  simp only [List.getElem_toArray, List.getElem_cons_zero, List.getElem_cons_succ, Act.put, List.setIfInBounds_toArray, List.set_cons_zero, List.set_cons_succ]
  refine wpAnyH_ready (rs := [7]) (by kernel_rfl) (by simp) ?_
  refine AllReadyH.cons rfl (fun K hK => ?_) AllReadyH.nil
  go_simp
  refine (coSet_calls D A base c a (fres p x) pc (n + 1 + 1) nr M _ x q1).mono ?_
  rintro e v2 ⟨rfl, r1, r2⟩
  have hbR := KeepC.box r2 hbN hbge (by decide) hbc
  have hKR := KeepC.trans hKN r2
  (try go_simp)
  refine hK.out _ _ (Blk.cell hbR 0) (fun hS2 => ?_)
  clear hK K hS1
  simp only [List.getElem_toArray, List.getElem_cons_zero, List.getElem_cons_succ, Act.put, List.setIfInBounds_toArray, List.set_cons_zero, List.set_cons_succ]
  refine wpAnyH_done (by kernel_rfl) ?_ _
  have b0 := hS2
  clear hS2
  go_wp2_with fail
  refine Cl.p (sumsLda D A base c x (fres p x) pc (n + 1 + 1) nr x t M _ r1) ?_
  go_wp2_with fail
  go_ret
  exact ⟨rfl, r1, hKR⟩
set_option maxRecDepth 100000 in
set_option maxHeartbeats 4000000 in
theorem loadsAdc (D : DevA) (A : BusA) (base c a p pc n nr v : Nat) (cy : Int) (s : Value) (M : Nat → Nat) (w : World) (hx : pc < 65536) (hn : n ≤ 690) (ha : a < 256) (hp : p < 256) (hv : v < 256) (hM : M v < 256) (hO : Opd w base c s v) (hS : Sys w D A base c a p pc n nr M) :
    Calls Tryz.prog 63 #[.pointer (some ⟨c, 0, none⟩), .agg #[(.string ⟨#[65, 68, 67]⟩), .int .u8 2, .int .i64 2, .int .i64 cy], s, .bool false] w fun e w' => e = .returned (.bool true) ∧ (∃ n', n' ≤ n + 3 ∧ Sys w' D A base c (addR a (M v) p) (addP a (M v) p) pc n' nr M) ∧ KeepC D base c w w' := by
  have hpl := hS.pl
  have hcw := hS.C.lt
  have hba : Below w.heap.size w (w.alloc (.cells #[(.string ⟨#[65, 68, 67]⟩), .int .u8 2, .int .i64 2, .int .i64 cy] 62)) := Bl.alloc (Below.refl _ _) _
  have hb : Blk (w.alloc (.cells #[(.string ⟨#[65, 68, 67]⟩), .int .u8 2, .int .i64 2, .int .i64 cy] 62)) w.heap.size 62 #[(.string ⟨#[65, 68, 67]⟩), .int .u8 2, .int .i64 2, .int .i64 cy] := Blk.new _ _ _
  have hS0 := hS.low hba
  have hO0 := hO.low hba
  have hK0 : KeepC D base c w (w.alloc (.cells #[(.string ⟨#[65, 68, 67]⟩), .int .u8 2, .int .i64 2, .int .i64 cy] 62)) := KeepC.low hpl.2.1 hba
  obtain ⟨g, cap, cur, rfl, hgB, hg0, hg1, hg2⟩ := hO
  have cg : (w.alloc (.cells #[(.string ⟨#[65, 68, 67]⟩), .int .u8 2, .int .i64 2, .int .i64 cy] 62)).cell? ⟨g, 0, none⟩ = some (.int .u8 (v : Int)) := (Blk.cell (Blk.below hgB hba hgB.lt) 0).trans hg0
  have hpc := coPlace_calls D A base c a p pc n nr v _ M _ hx (by omega) hv hO0 hS0
  have hrd := fun W (h : Sys W D A base c a p pc (n + 1) nr M) => coRead_calls D A base c a p pc (n + 1) nr (8192 + v) 3 M W (by omega) (by omega) h
  rw [show (8192 + v) % 8192 = v by omega] at hrd
  have hbge : base ≤ w.heap.size := hpl.2.2.1
  have hbc : w.heap.size ≠ c := by omega
  clear hS hO0 hgB hg0 hg1 hg2 hba
  generalize M v = x at *
  obtain ⟨go, hgo⟩ : ∃ x, w.heap.size = x := ⟨_, rfl⟩
  rw [hgo] at hb hbge hbc
  go_enter Tryz.func63, Tryz.ntmps63
  go_wp2_with fail
  clear hgo
  generalize w.alloc (.cells #[(.string ⟨#[65, 68, 67]⟩), .int .u8 2, .int .i64 2, .int .i64 cy] 62) = w0 at *
  refine Cl.p (readsAdc _) ?_
  have b0 : w0.cell? ⟨go, 0, none⟩ = some (.string ⟨#[65, 68, 67]⟩) := Blk.cell hb 0
  have b1 : w0.cell? ⟨go, 1, none⟩ = some (.int .u8 2) := Blk.cell hb 1
  go_wp2_with fail
  refine hpc.mono ?_
  clear hpc cg b0 b1
  rintro e w1 ⟨rfl, hS1, hK1⟩
  have hb1 := hK1.box hb hbge (by decide) hbc
  have hK01 := hK0.trans hK1
  have hr := hrd w1 hS1
  clear hb hS0 hK0 hK1 hrd hS1
  go_wp2_with fail
  refine hr.mono ?_
  clear hr
  rintro e w2 ⟨rfl, hS2, hK2⟩
  have hb2 := hK2.box hb1 hbge (by decide) hbc
  have hK02 := hK01.trans hK2
  have b0 : w2.cell? ⟨go, 0, none⟩ = some (.string ⟨#[65, 68, 67]⟩) := Blk.cell hb2 0
  clear hb1 hK01 hK2
  go_wp2_with fail
  refine (sumsAdc D A base c a p pc (n + 1 + 1) nr x M w2 hx (by omega) ha hp hM hS2).mono ?_
  rintro e w3 ⟨rfl, ⟨n', hn', hS3⟩, hK3⟩
  go_wp2_with fail
  go_ret
  exact ⟨rfl, ⟨n', by omega, hS3⟩, hK02.trans hK3⟩
theorem loadsSta (D : DevA) (A : BusA) (base c a p pc n nr : Nat) (cy : Int) (t : Bool) (s : Value) (M : Nat → Nat) (w : World) (hS : Sys w D A base c a p pc n nr M) :
    Calls Tryz.prog 63 #[.pointer (some ⟨c, 0, none⟩), .agg #[(.string ⟨#[83, 84, 65]⟩), .int .u8 2, .int .i64 2, .int .i64 cy], s, .bool t] w fun e w' => e = .returned (.bool false) ∧ Below w.heap.size w w' := by
  have hba : Below w.heap.size w (w.alloc (.cells #[(.string ⟨#[83, 84, 65]⟩), .int .u8 2, .int .i64 2, .int .i64 cy] 62)) := Bl.alloc (Below.refl _ _) _
  have hb : Blk (w.alloc (.cells #[(.string ⟨#[83, 84, 65]⟩), .int .u8 2, .int .i64 2, .int .i64 cy] 62)) w.heap.size 62 #[(.string ⟨#[83, 84, 65]⟩), .int .u8 2, .int .i64 2, .int .i64 cy] := Blk.new _ _ _
  have b0 : (w.alloc (.cells #[(.string ⟨#[83, 84, 65]⟩), .int .u8 2, .int .i64 2, .int .i64 cy] 62)).cell? ⟨w.heap.size, 0, none⟩ = some (.string ⟨#[83, 84, 65]⟩) := Blk.cell hb 0
  go_enter Tryz.func63, Tryz.ntmps63
  go_wp2_with fail
  refine Cl.p (readsSta _) ?_
  go_wp2_with fail
  go_ret
  exact ⟨rfl, hba⟩
set_option maxRecDepth 100000 in
set_option maxHeartbeats 4000000 in
theorem storesSta (D : DevA) (A : BusA) (base c a p pc n nr v : Nat) (cy : Int) (s : Value) (M : Nat → Nat) (w : World) (hx : pc < 65536) (hn : n ≤ 690) (hr : nr < 100000) (hv : v < 256) (hO : Opd w base c s v) (hS : Sys w D A base c a p pc n nr M) :
    Calls Tryz.prog 64 #[.pointer (some ⟨c, 0, none⟩), .agg #[(.string ⟨#[83, 84, 65]⟩), .int .u8 2, .int .i64 2, .int .i64 cy], s] w fun e w' => e = .returned (.bool true) ∧ Sys w' D A base c a p pc (n + 2) (nr + 1) (upM M v a) ∧ KeepC D base c w w' := by
  have hpl := hS.pl
  have hcw := hS.C.lt
  have hba : Below w.heap.size w (w.alloc (.cells #[(.string ⟨#[83, 84, 65]⟩), .int .u8 2, .int .i64 2, .int .i64 cy] 62)) := Bl.alloc (Below.refl _ _) _
  have hb : Blk (w.alloc (.cells #[(.string ⟨#[83, 84, 65]⟩), .int .u8 2, .int .i64 2, .int .i64 cy] 62)) w.heap.size 62 #[(.string ⟨#[83, 84, 65]⟩), .int .u8 2, .int .i64 2, .int .i64 cy] := Blk.new _ _ _
  have hS0 := hS.low hba
  have hO0 := hO.low hba
  have hK0 : KeepC D base c w (w.alloc (.cells #[(.string ⟨#[83, 84, 65]⟩), .int .u8 2, .int .i64 2, .int .i64 cy] 62)) := KeepC.low hpl.2.1 hba
  have hpc := coPlace_calls D A base c a p pc n nr v s M _ hx (by omega) hv hO0 hS0
  have hwr := fun W (h : Sys W D A base c a p pc (n + 1) nr M) => coWrite_calls D A base c a p pc (n + 1) nr (8192 + v) a 4 M W (by omega) (by omega) hr h
  rw [show (8192 + v) % 8192 = v by omega] at hwr
  have hbge : base ≤ w.heap.size := hpl.2.2.1
  have hbc : w.heap.size ≠ c := by omega
  clear hS hO0 hO hba
  obtain ⟨go, hgo⟩ : ∃ x, w.heap.size = x := ⟨_, rfl⟩
  rw [hgo] at hb hbge hbc
  go_enter Tryz.func64, Tryz.ntmps64
  go_wp2_with fail
  clear hgo
  generalize w.alloc (.cells #[(.string ⟨#[83, 84, 65]⟩), .int .u8 2, .int .i64 2, .int .i64 cy] 62) = w0 at *
  refine hpc.mono ?_
  clear hpc
  rintro e w1 ⟨rfl, hS1, hK1⟩
  have hb1 := hK1.box hb hbge (by decide) hbc
  have hK01 := hK0.trans hK1
  have b0 : w1.cell? ⟨go, 0, none⟩ = some (.string ⟨#[83, 84, 65]⟩) := Blk.cell hb1 0
  have hw := hwr w1 hS1
  clear hb hS0 hK0 hK1 hwr
  go_wp2_with fail
  refine Cl.p (coRegister_calls D A base c a p pc (n + 1) nr M _ hS1) ?_
  go_wp2_with fail
  refine hw.mono ?_
  clear hw
  rintro e w2 ⟨rfl, hS2, hK2⟩
  go_wp2_with fail
  go_ret
  exact ⟨rfl, hS2, hK01.trans hK2⟩
end Go.Proofs.YtplobngbjpgcgaaGreatDoor
end
