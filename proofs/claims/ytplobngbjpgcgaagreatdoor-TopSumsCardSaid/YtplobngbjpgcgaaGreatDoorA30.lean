/-
  The texts Co7, Co8 of the proof of TopSums, as one file (they are merged by a program).
-/
import Derived.Test.YtplobngbjpgcgaaGreatDoorA29
section
/-
  A core: do; turn of no name, flag, implied.
-/
namespace Go.Proofs.YtplobngbjpgcgaaGreatDoor
set_option linter.unusedSimpArgs false
set_option linter.unusedVariables false
set_option maxRecDepth 10000
open Go.RowKit Pl
set_option maxRecDepth 100000 in
set_option maxHeartbeats 4000000 in
theorem doLda (D : DevA) (A : BusA) (base c a p pc n nr v : Nat) (cy : Int) (t : Bool) (s : Value) (M : Nat → Nat) (w : World) (hx : pc < 65536) (hn : n ≤ 690) (hp : p < 256) (hv : v < 256) (hM : M v < 256) (hO : Opd w base c s v) (hS : Sys w D A base c a p pc n nr M) :
    Calls Tryz.prog 21 #[.pointer (some ⟨c, 0, none⟩), .agg #[(.string ⟨#[76, 68, 65]⟩), .int .u8 2, .int .i64 2, .int .i64 cy], s, .bool t] w fun e w' => e = .returned (.tuple #[]) ∧ Sys w' D A base c (M v) (fres p (M v)) pc (n + 2) nr M ∧ KeepC D base c w w' := by
  have hba : Below w.heap.size w (w.alloc (.cells #[(.string ⟨#[76, 68, 65]⟩), .int .u8 2, .int .i64 2, .int .i64 cy] 62)) := Bl.alloc (Below.refl _ _) _
  have hb : Blk (w.alloc (.cells #[(.string ⟨#[76, 68, 65]⟩), .int .u8 2, .int .i64 2, .int .i64 cy] 62)) w.heap.size 62 #[(.string ⟨#[76, 68, 65]⟩), .int .u8 2, .int .i64 2, .int .i64 cy] := Blk.new _ _ _
  have hl := loadsLda D A base c a p pc n nr v cy t s M _ hx hn hp hv hM (hO.low hba) (hS.low hba)
  have hK0 : KeepC D base c w (w.alloc (.cells #[(.string ⟨#[76, 68, 65]⟩), .int .u8 2, .int .i64 2, .int .i64 cy] 62)) := KeepC.low hS.pl.2.1 hba
  clear hba hO hS
  go_enter Tryz.func21, Tryz.ntmps21
  go_wp2_with (refine wpList_load_row rfl 62 _ rfl w.heap.size rfl _ #[(.string ⟨#[76, 68, 65]⟩), .int .u8 2, .int .i64 2, .int .i64 cy] (0, 0) _ hb Tryz.underlying62 rfl (by kernel_rfl) ?_)
  refine hl.mono ?_
  clear hl hb
  rintro e w1 ⟨rfl, hS1, hK1⟩
  go_wp2_with fail
  go_end0
  exact ⟨rfl, hS1, hK0.trans hK1⟩
set_option maxRecDepth 100000 in
set_option maxHeartbeats 4000000 in
theorem doAdc (D : DevA) (A : BusA) (base c a p pc n nr v : Nat) (cy : Int) (s : Value) (M : Nat → Nat) (w : World) (hx : pc < 65536) (hn : n ≤ 690) (ha : a < 256) (hp : p < 256) (hv : v < 256) (hM : M v < 256) (hO : Opd w base c s v) (hS : Sys w D A base c a p pc n nr M) :
    Calls Tryz.prog 21 #[.pointer (some ⟨c, 0, none⟩), .agg #[(.string ⟨#[65, 68, 67]⟩), .int .u8 2, .int .i64 2, .int .i64 cy], s, .bool false] w fun e w' => e = .returned (.tuple #[]) ∧ (∃ n', n' ≤ n + 3 ∧ Sys w' D A base c (addR a (M v) p) (addP a (M v) p) pc n' nr M) ∧ KeepC D base c w w' := by
  have hba : Below w.heap.size w (w.alloc (.cells #[(.string ⟨#[65, 68, 67]⟩), .int .u8 2, .int .i64 2, .int .i64 cy] 62)) := Bl.alloc (Below.refl _ _) _
  have hb : Blk (w.alloc (.cells #[(.string ⟨#[65, 68, 67]⟩), .int .u8 2, .int .i64 2, .int .i64 cy] 62)) w.heap.size 62 #[(.string ⟨#[65, 68, 67]⟩), .int .u8 2, .int .i64 2, .int .i64 cy] := Blk.new _ _ _
  have hl := loadsAdc D A base c a p pc n nr v cy s M _ hx hn ha hp hv hM (hO.low hba) (hS.low hba)
  have hK0 : KeepC D base c w (w.alloc (.cells #[(.string ⟨#[65, 68, 67]⟩), .int .u8 2, .int .i64 2, .int .i64 cy] 62)) := KeepC.low hS.pl.2.1 hba
  clear hba hO hS
  go_enter Tryz.func21, Tryz.ntmps21
  go_wp2_with (refine wpList_load_row rfl 62 _ rfl w.heap.size rfl _ #[(.string ⟨#[65, 68, 67]⟩), .int .u8 2, .int .i64 2, .int .i64 cy] (0, 0) _ hb Tryz.underlying62 rfl (by kernel_rfl) ?_)
  refine hl.mono ?_
  clear hl hb
  rintro e w1 ⟨rfl, ⟨n', hn', hS1⟩, hK1⟩
  go_wp2_with fail
  go_end0
  exact ⟨rfl, ⟨n', hn', hS1⟩, hK0.trans hK1⟩
set_option maxRecDepth 100000 in
set_option maxHeartbeats 4000000 in
theorem doSta (D : DevA) (A : BusA) (base c a p pc n nr v : Nat) (cy : Int) (t : Bool) (s : Value) (M : Nat → Nat) (w : World) (hx : pc < 65536) (hn : n ≤ 690) (hr : nr < 100000) (hv : v < 256) (hO : Opd w base c s v) (hS : Sys w D A base c a p pc n nr M) :
    Calls Tryz.prog 21 #[.pointer (some ⟨c, 0, none⟩), .agg #[(.string ⟨#[83, 84, 65]⟩), .int .u8 2, .int .i64 2, .int .i64 cy], s, .bool t] w fun e w' => e = .returned (.tuple #[]) ∧ Sys w' D A base c a p pc (n + 2) (nr + 1) (upM M v a) ∧ KeepC D base c w w' := by
  have hba : Below w.heap.size w (w.alloc (.cells #[(.string ⟨#[83, 84, 65]⟩), .int .u8 2, .int .i64 2, .int .i64 cy] 62)) := Bl.alloc (Below.refl _ _) _
  have hb : Blk (w.alloc (.cells #[(.string ⟨#[83, 84, 65]⟩), .int .u8 2, .int .i64 2, .int .i64 cy] 62)) w.heap.size 62 #[(.string ⟨#[83, 84, 65]⟩), .int .u8 2, .int .i64 2, .int .i64 cy] := Blk.new _ _ _
  have hO0 := hO.low hba
  have hS0 := hS.low hba
  have hl := loadsSta D A base c a p pc n nr cy t s M _ hS0
  have hK0 : KeepC D base c w (w.alloc (.cells #[(.string ⟨#[83, 84, 65]⟩), .int .u8 2, .int .i64 2, .int .i64 cy] 62)) := KeepC.low hS.pl.2.1 hba
  have hDl := hS.pl.2.1
  clear hba hO hS
  go_enter Tryz.func21, Tryz.ntmps21
  go_wp2_with (refine wpList_load_row rfl 62 _ rfl w.heap.size rfl _ #[(.string ⟨#[83, 84, 65]⟩), .int .u8 2, .int .i64 2, .int .i64 cy] (0, 0) _ hb Tryz.underlying62 rfl (by kernel_rfl) ?_)
  refine Cl.m hl ?_
  clear hl
  intro w1 hb1
  have hB1 := Blk.below hb hb1 hb.lt
  have hs := storesSta D A base c a p pc n nr v cy s M w1 hx hn hr hv (hO0.low hb1) (hS0.low hb1)
  have hK1 := hK0.low2 hDl hb1
  clear hb hb1 hO0 hS0 hK0
  go_wp2_with (refine wpList_load_row rfl 62 _ rfl w.heap.size rfl _ #[(.string ⟨#[83, 84, 65]⟩), .int .u8 2, .int .i64 2, .int .i64 cy] (0, 0) _ hB1 Tryz.underlying62 rfl (by kernel_rfl) ?_)
  refine hs.mono ?_
  clear hs hB1
  rintro e w2 ⟨rfl, hS2, hK2⟩
  go_wp2_with fail
  go_end0
  exact ⟨rfl, hS2, hK1.trans hK2⟩
/-- Names of three that have nothing behind: what they do with a flag. -/
def flN (k : Nat) : ByteArray := if k = 24 then ⟨#[67, 76, 67]⟩ else if k = 216 then ⟨#[67, 76, 68]⟩ else ⟨#[83, 69, 68]⟩
def flB (k : Nat) : Nat := if k = 24 then 1 else 8
def flO (k : Nat) : Bool := if k = 24 then false else if k = 216 then false else true
set_option maxRecDepth 100000 in
set_option maxHeartbeats 4000000 in
theorem coTurn_none (D : DevA) (A : BusA) (base c a p pc n nr x k : Nat) (M : Nat → Nat) (w : World) (hk : k = 24 ∨ k = 216 ∨ k = 248) (hS : Sys w D A base c a p pc n nr M) :
    Calls Tryz.prog 58 #[.pointer (some ⟨c, 0, none⟩), .string (flN k), .int .u8 (x : Int)] w fun e w' => e = .returned (.tuple #[.int .u8 0, .bool false]) ∧ Below w.heap.size w w' := by
  have c4 : w.cell? ⟨c, 4, none⟩ = some (.int .u8 (p : Int)) := Blk.cell hS.C 4
  have hb0 : Below w.heap.size w w := Below.refl _ _
  clear hS
  rcases hk with rfl | rfl | rfl
  all_goals
    simp only [flN, show ¬ (216 = 24) by decide, show ¬ (248 = 24) by decide, show ¬ (248 = 216) by decide, if_true, if_false]
    go_enter Tryz.func58, Tryz.ntmps58
    go_wp2_with fail
    refine wp_region_held_drew (S := fun W => W.cell? ⟨c, 4, none⟩ = some (.int .u8 (p : Int))) (by kernel_rfl) (by first | exact c4.drew | exact c4 | exact Below.drew c4) (fun hS0 => ?_)
    have hb0_0 : Below w.heap.size w w.drew := by first | exact hb0.drew | exact hb0
    clear c4 hb0
    change wpAnyH _ _ _ _ _ 8 #[false, false, false, false, false, false, false, false] _ _
    generalize w.drew = v0 at *
    refine wpAnyH_take (i := 0) (v := ?_) rfl (by kernel_rfl) (by kernel_rfl) (by kernel_rfl) (fun _ _ _ h => h) (Or.inl ⟨by rfl, ?_⟩) hS0 ?_
    rotate_left
    · (intro w hSw; (try dsimp only at hSw); go_simp; try with_reducible rfl)
    simp only [List.getElem_toArray, List.getElem_cons_zero, List.getElem_cons_succ, Act.put, List.setIfInBounds_toArray, List.set_cons_zero, List.set_cons_succ]
    refine wpAnyH_take (i := 1) (v := ?_) rfl (by kernel_rfl) (by kernel_rfl) (by kernel_rfl) (fun _ _ _ h => h) (Or.inl ⟨by rfl, ?_⟩) hS0 ?_
    rotate_left
    · (intro w hSw; (try dsimp only at hSw); go_simp; try with_reducible rfl)
    simp only [List.getElem_toArray, List.getElem_cons_zero, List.getElem_cons_succ, Act.put, List.setIfInBounds_toArray, List.set_cons_zero, List.set_cons_succ]
    refine wpAnyH_take (i := 2) (v := ?_) rfl (by kernel_rfl) (by kernel_rfl) (by kernel_rfl) (fun _ _ _ h => h) (Or.inl ⟨by rfl, ?_⟩) hS0 ?_
    rotate_left
    · (intro w hSw; (try dsimp only at hSw); go_simp; try with_reducible rfl)
    simp only [List.getElem_toArray, List.getElem_cons_zero, List.getElem_cons_succ, Act.put, List.setIfInBounds_toArray, List.set_cons_zero, List.set_cons_succ]
    refine wpAnyH_take (i := 3) (v := ?_) rfl (by kernel_rfl) (by kernel_rfl) (by kernel_rfl) (fun _ _ _ h => h) (Or.inl ⟨by rfl, ?_⟩) hS0 ?_
    rotate_left
    · (intro w hSw; (try dsimp only at hSw); go_simp; try with_reducible rfl)
    simp only [List.getElem_toArray, List.getElem_cons_zero, List.getElem_cons_succ, Act.put, List.setIfInBounds_toArray, List.set_cons_zero, List.set_cons_succ]
    refine wpAnyH_take (i := 4) (v := ?_) rfl (by kernel_rfl) (by kernel_rfl) (by kernel_rfl) (fun _ _ _ h => h) (Or.inl ⟨by rfl, ?_⟩) hS0 ?_
    rotate_left
    · (intro w hSw; (try dsimp only at hSw); go_simp; try with_reducible rfl)
    simp only [List.getElem_toArray, List.getElem_cons_zero, List.getElem_cons_succ, Act.put, List.setIfInBounds_toArray, List.set_cons_zero, List.set_cons_succ]
    refine wpAnyH_take (i := 5) (v := ?_) rfl (by kernel_rfl) (by kernel_rfl) (by kernel_rfl) (fun _ _ _ h => h) (Or.inl ⟨by rfl, ?_⟩) hS0 ?_
    rotate_left
    · (intro w hSw; (try dsimp only at hSw); go_simp; try with_reducible rfl)
    simp only [List.getElem_toArray, List.getElem_cons_zero, List.getElem_cons_succ, Act.put, List.setIfInBounds_toArray, List.set_cons_zero, List.set_cons_succ]
    refine wpAnyH_take (i := 6) (v := ?_) rfl (by kernel_rfl) (by kernel_rfl) (by kernel_rfl) (fun _ _ _ h => h) (Or.inl ⟨by rfl, ?_⟩) hS0 ?_
    rotate_left
    · (intro w hSw; (try dsimp only at hSw); go_simp; try with_reducible rfl)
    simp only [List.getElem_toArray, List.getElem_cons_zero, List.getElem_cons_succ, Act.put, List.setIfInBounds_toArray, List.set_cons_zero, List.set_cons_succ]
    refine wpAnyH_take (i := 7) (v := ?_) rfl (by kernel_rfl) (by kernel_rfl) (by kernel_rfl) (fun _ _ _ h => h) (Or.inl ⟨by rfl, ?_⟩) hS0 ?_
    rotate_left
    · (intro w hSw; (try dsimp only at hSw); go_simp; try with_reducible rfl)
    simp only [List.getElem_toArray, List.getElem_cons_zero, List.getElem_cons_succ, Act.put, List.setIfInBounds_toArray, List.set_cons_zero, List.set_cons_succ]
    refine wpAnyH_done (by kernel_rfl) ?_ _
    have c4 := hS0
    clear hS0
    have hb0 := hb0_0
    go_wp2_with fail
    go_ret2
    exact ⟨rfl, hb0⟩
theorem coFlag_calls (k : Nat) (w : World) (hk : k = 24 ∨ k = 216 ∨ k = 248) :
    Calls Tryz.prog 59 #[.string (flN k)] w fun e w' => e = .returned (.tuple #[.int .u8 (flB k : Int), .bool (flO k), .bool true]) ∧ w = w' := by
  rcases hk with rfl | rfl | rfl
  all_goals
    simp only [flN, flB, flO, show ¬ (216 = 24) by decide, show ¬ (248 = 24) by decide, show ¬ (248 = 216) by decide, if_true, if_false]
    go_enter Tryz.func59, Tryz.ntmps59
    go_wp2_with fail
    go_ret3
    exact ⟨rfl, rfl⟩
set_option maxRecDepth 100000 in
set_option maxHeartbeats 4000000 in
theorem coImplied_calls (D : DevA) (A : BusA) (base c a p pc n nr k : Nat) (M : Nat → Nat) (w : World) (hx : pc < 65536) (hn : n ≤ 690) (hp : p < 256) (hk : k = 24 ∨ k = 216 ∨ k = 248) (hS : Sys w D A base c a p pc n nr M) :
    Calls Tryz.prog 20 #[.pointer (some ⟨c, 0, none⟩), .string (flN k)] w fun e w' => e = .returned (.tuple #[]) ∧ Sys w' D A base c a (fset p (flB k) (flO k)) pc (n + 1) nr M ∧ KeepC D base c w w' := by
  have hid := coIdle_calls D A base c a p pc n nr 1 M w hx (by omega) (by omega) hS
  have hfl := fun W => coFlag_calls k W hk
  have hB : flB k < 256 := by unfold flB; split <;> omega
  have hst := fun W => flSet_calls p (flB k) (flO k) W hp hB
  have htn := fun W (h : Sys W D A base c a p pc (n + 1) nr M) => coTurn_none D A base c a p pc (n + 1) nr a k M W hk h
  generalize flN k = N at *
  generalize flO k = O at *
  generalize flB k = B at *
  clear hk hS
  go_enter Tryz.func20, Tryz.ntmps20
  go_wp2_with fail
  refine hid.mono ?_
  clear hid
  rintro e w1 ⟨rfl, hS1, hK1⟩
  have c0 : w1.cell? ⟨c, 0, none⟩ = some (.int .u8 (a : Int)) := Blk.cell hS1.C 0
  have ht := htn w1 hS1
  have hDl := hS1.pl
  clear htn
  go_wp2_with fail
  refine Cl.m ht ?_
  clear ht c0
  intro w2 hb2
  have hS2 := hS1.low hb2
  have hK2 : KeepC D base c w w2 := hK1.trans (KeepC.low hDl.2.1 hb2)
  clear hS1 hb2 hK1
  go_wp2_with fail
  refine Cl.p (hfl _) ?_
  have c4 : w2.cell? ⟨c, 4, none⟩ = some (.int .u8 (p : Int)) := Blk.cell hS2.C 4
  have f4 : w2.frozen? ⟨c, 4, none⟩ = false := Blk.frozen hS2.C 4
  go_wp2_with fail
  refine Cl.p (hst _) ?_
  go_wp2_with fail
  exact bodyPost_ret (results_none rfl _ _ _) rfl ⟨rfl, hS2.set 4 _ rfl, hK2.set hDl.1 4 _⟩
end Go.Proofs.YtplobngbjpgcgaaGreatDoor
end
section
/-
  What six bytes mean; a bus: own, Turn, Fast.
-/
namespace Go.Proofs.YtplobngbjpgcgaaGreatDoor
set_option linter.unusedSimpArgs false
set_option linter.unusedVariables false
set_option maxRecDepth 10000
open Go.RowKit Pl
theorem opv_of (b m : Nat) (s : ByteArray) (sz : Int) (h1 : nameS (nmB b) = s) (h2 : modeB b = m) (h3 : 1 + behM m = sz) : ∃ cy, opV b = #[.string s, .int .u8 (m : Int), .int .i64 sz, .int .i64 cy] := by
  subst h1 h2 h3
  exact ⟨_, rfl⟩
theorem nm_lda : nameS (nmB 165) = ⟨#[76, 68, 65]⟩ ∧ modeB 165 = 2 := by decide +kernel
theorem nm_adc : nameS (nmB 101) = ⟨#[65, 68, 67]⟩ ∧ modeB 101 = 2 := by decide +kernel
theorem nm_sta : nameS (nmB 133) = ⟨#[83, 84, 65]⟩ ∧ modeB 133 = 2 := by decide +kernel
theorem nm_clc : nameS (nmB 24) = flN 24 ∧ modeB 24 = 0 := by decide +kernel
theorem nm_cld : nameS (nmB 216) = flN 216 ∧ modeB 216 = 0 := by decide +kernel
theorem nm_sed : nameS (nmB 248) = flN 248 ∧ modeB 248 = 0 := by decide +kernel
theorem op_lda : ∃ cy, opV 165 = #[(.string ⟨#[76, 68, 65]⟩), .int .u8 2, .int .i64 2, .int .i64 cy] := opv_of 165 2 _ 2 nm_lda.1 nm_lda.2 (by decide)
theorem op_adc : ∃ cy, opV 101 = #[(.string ⟨#[65, 68, 67]⟩), .int .u8 2, .int .i64 2, .int .i64 cy] := opv_of 101 2 _ 2 nm_adc.1 nm_adc.2 (by decide)
theorem op_sta : ∃ cy, opV 133 = #[(.string ⟨#[83, 84, 65]⟩), .int .u8 2, .int .i64 2, .int .i64 cy] := opv_of 133 2 _ 2 nm_sta.1 nm_sta.2 (by decide)
theorem op_imp (k : Nat) (hk : k = 24 ∨ k = 216 ∨ k = 248) : ∃ cy, opV k = #[.string (flN k), .int .u8 0, .int .i64 1, .int .i64 cy] := by
  rcases hk with rfl | rfl | rfl
  · exact opv_of 24 0 _ 1 nm_clc.1 nm_clc.2 (by decide)
  · exact opv_of 216 0 _ 1 nm_cld.1 nm_cld.2 (by decide)
  · exact opv_of 248 0 _ 1 nm_sed.1 nm_sed.2 (by decide)
section
variable {D : DevA} {A : BusA} {base nr k h : Nat} {now cyc left np : Int} {F : Nat → Int} {V : Value}
theorem bsOwn_calls (w : World) (x : BusW w D A base now cyc left np nr k h F V) : Calls Tryz.prog 68 #[.pointer (some ⟨A.b, 0, none⟩)] w fun e w' => e = .returned (.pointer (some ⟨A.ck, 0, none⟩)) ∧ w = w' := by
  have c0 : w.cell? ⟨A.b, 0, none⟩ = some (.pointer (some ⟨A.ck, 0, none⟩)) := Blk.cell x.B 0
  go_enter Tryz.func68, Tryz.ntmps68
  go_wp2_with fail
  go_ret
  exact ⟨rfl, rfl⟩
theorem ckFast_calls (g : Nat) (w : World) (hC : CK w g now cyc) : Calls Tryz.prog 70 #[.pointer (some ⟨g, 0, none⟩)] w fun e w' => e = .returned (.bool false) ∧ w = w' := by
  have c2 : w.cell? ⟨g, 2, none⟩ = some (.bool false) := Blk.cell hC 2
  go_enter Tryz.func70, Tryz.ntmps70
  go_wp2_with fail
  go_ret
  exact ⟨rfl, rfl⟩
theorem bsFast_calls (w : World) (x : BusW w D A base now cyc left np nr k h F V) : Calls Tryz.prog 24 #[.pointer (some ⟨A.b, 0, none⟩)] w fun e w' => e = .returned (.bool false) ∧ w = w' := by
  go_enter Tryz.func24, Tryz.ntmps24
  go_wp2_with fail
  refine Cl.p (bsOwn_calls w x) ?_
  go_wp2_with fail
  refine Cl.p (ckFast_calls A.ck w x.C) ?_
  go_wp2_with fail
  go_ret
  exact ⟨rfl, rfl⟩
theorem ckTurn_calls (g : Nat) (w : World) (hC : CK w g now cyc) : Calls Tryz.prog 69 #[.pointer (some ⟨g, 0, none⟩)] w fun e w' => e = .returned (.tuple #[]) ∧ w = w' := by
  have c3 : w.cell? ⟨g, 3, none⟩ = some (.bool false) := Blk.cell hC 3
  have c4 : w.cell? ⟨g, 4, none⟩ = some (.bool false) := Blk.cell hC 4
  have he : ∀ W : World, (binOp .eql 193 (.agg #[.bool false, .bool false]) (.agg #[.bool false, .bool false])).run Tryz.prog W = .ok (.bool true) W := fun _ => by kernel_rfl
  go_enter Tryz.func69, Tryz.ntmps69
  go_wp2_with fail
  exact bodyPost_ret (results_none rfl _ _ _) rfl ⟨rfl, rfl⟩
theorem bsTurn_calls (w : World) (x : BusW w D A base now cyc left np nr k h F V) : Calls Tryz.prog 23 #[.pointer (some ⟨A.b, 0, none⟩)] w fun e w' => e = .returned (.tuple #[]) ∧ w = w' := by
  go_enter Tryz.func23, Tryz.ntmps23
  go_wp2_with fail
  refine Cl.p (bsOwn_calls w x) ?_
  go_wp2_with fail
  refine Cl.p (ckTurn_calls A.ck w x.C) ?_
  go_wp2_with fail
  go_end0
  exact ⟨rfl, rfl⟩
end
end Go.Proofs.YtplobngbjpgcgaaGreatDoor
end
