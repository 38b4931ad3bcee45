/-
  hard: New at bad edges, To while the timer stands still, Choose, Read where there is nothing.
-/
import Derived.Test.YtemfdkoipeedeaaHard
namespace Go.Proofs.Ytemfdkoipeedeaa
set_option linter.unusedSimpArgs false
set_option linter.unusedVariables false
set_option maxRecDepth 10000
open Go.RowKit Pl
set_option maxRecDepth 100000 in
set_option maxHeartbeats 8000000 in
theorem hdNew_bad (o : Option Addr) (n c : Nat) (St : Nat → Int) (Ln : Nat → Nat) (Up : Nat → Bool) (w : World) (hE : EdgB w o n St Ln Up w.heap.size) (h0 : (chkV St Ln n).1 ≠ 0) :
    Calls Try.prog 6 #[.agg #[.slice none 0 0, .slice none 0 0, .slice none 0 0], .slice o n c] w fun e w' => e = .returned (.tuple #[.pointer none, .agg (fltA (chkV St Ln n))]) ∧ Below w.heap.size w w' := by
  have hx1 : Blk ((w.alloc (.cells #[.slice none 0 0, .slice none 0 0, .slice none 0 0] 35)).alloc (.cells #[.int .i64 0, .int .i64 0] 30)) w.heap.size 35 #[.slice none 0 0, .slice none 0 0, .slice none 0 0] := Blk.alloc (Blk.new _ _ _) _
  have hz1 : Blk ((w.alloc (.cells #[.slice none 0 0, .slice none 0 0, .slice none 0 0] 35)).alloc (.cells #[.int .i64 0, .int .i64 0] 30)) (w.heap.size + 1) 30 #[.int .i64 0, .int .i64 0] := Blk.newAt (by simp)
  have hb1 : Below w.heap.size w ((w.alloc (.cells #[.slice none 0 0, .slice none 0 0, .slice none 0 0] 35)).alloc (.cells #[.int .i64 0, .int .i64 0] 30)) := Bl.alloc (Bl.alloc (Below.refl _ _) _) _
  go_enter Try.func6, Try.ntmps6
  go_wp2_with (refine wpList_load_row rfl 35 _ rfl w.heap.size rfl _ #[.slice none 0 0, .slice none 0 0, .slice none 0 0] (0, 0) _ hx1 Try.underlying35 rfl (by kernel_rfl) ?_)
  generalize (w.alloc (.cells #[.slice none 0 0, .slice none 0 0, .slice none 0 0] 35)).alloc (.cells #[.int .i64 0, .int .i64 0] 30) = w1 at *
  obtain ⟨fv, hfv⟩ : ∃ x, w.heap.size + 1 = x := ⟨_, rfl⟩
  have hfv0 : w.heap.size < fv := by omega
  rw [hfv] at hz1 ⊢
  clear hfv hx1
  refine Cl.m (fdCheck_calls none none none 0 0 0 0 0 0 _) ?_
  intro w2 hb2
  have hb02 := hb1.trans (hb2.mono hb1.size)
  have hz2 := hz1.below hb2 hz1.lt
  have hE2 := (hE.low hb02).mono hb02.size
  clear hb1 hb2 hz1 hE
  go_wp2_with fail
  refine Cl.m (lnNew_bad o n c St Ln Up w2 hE2 h0) ?_
  intro w3 hb3
  have hb03 := hb02.trans (hb3.mono hb02.size)
  have hz3 := hz2.below hb3 hz2.lt
  obtain ⟨V, hV⟩ : ∃ V, chkV St Ln n = V := ⟨_, rfl⟩
  rw [hV]
  have hz : Blk (w3.alloc (.cells #[.int .i64 0, .int .i64 0] 30)) w3.heap.size 30 #[.int .i64 0, .int .i64 0] := Blk.new _ _ _
  have hG : Blk (w3.alloc (.cells (fltA V) 30)) w3.heap.size 30 (fltA V) := Blk.new _ _ _
  have hz4 : Blk (w3.alloc (.cells (fltA V) 30)) fv 30 #[.int .i64 0, .int .i64 0] := hz3.alloc _
  have hb04 := Bl.alloc hb03 (.cells (fltA V) 30)
  have hne : w3.heap.size ≠ fv := fun e => by have := hz3.lt; omega
  clear hb02 hz2 hE2 hb3 hb03 hz3 h0
  have HV := hide hV
  clear hV
  go_wp2_with (refine wpList_store_row rfl 30 _ _ rfl w3.heap.size (fltA V) rfl rfl 30 _ hz (by kernel_rfl) rfl (by kernel_rfl) ?_; rw [setRow_new])
  generalize w3.alloc (.cells (fltA V) 30) = w4 at *
  generalize w3.heap.size = gg at *
  clear hz
  refine wp_region_held_drew (S := fun W => Blk W gg 30 (fltA V) ∧ Below w.heap.size w W) (by kernel_rfl) ⟨(by first | exact hG.drew | exact hG | exact Below.drew hG), (by first | exact hb04.drew | exact hb04 | exact Below.drew hb04)⟩ (fun hS0 => ?_)
  have hz4_0 : Blk w4.drew fv 30 #[.int .i64 0, .int .i64 0] := by first | exact hz4.drew | exact hz4
  clear hG hb04 hz4
  change wpAnyH _ _ _ _ _ 3 #[false, false, false] _ _
  generalize w4.drew = v0 at *
  refine wpAnyH_take (i := 0) (v := .agg (fltA V)) rfl (by kernel_rfl) (by kernel_rfl) (by kernel_rfl) (fun _ _ _ h => h) (YieldsIf.row_w (by rfl) 30 _ rfl gg rfl _ _ _ (fun _ h => h.1) Try.underlying30 rfl (by kernel_rfl)) hS0 ?_
  simp only [List.getElem_toArray, List.getElem_cons_zero, List.getElem_cons_succ, Act.put, List.setIfInBounds_toArray, List.set_cons_zero, List.set_cons_succ]
  refine wpAnyH_take (i := 1) (v := ?_) rfl (by kernel_rfl) (by kernel_rfl) (by kernel_rfl) (fun _ _ _ h => h) (Or.inl ⟨by rfl, ?_⟩) hS0 ?_
  rotate_left
  · (intro w hSw; (try dsimp only at hSw); go_simp; try with_reducible rfl)
  simp only [List.getElem_toArray, List.getElem_cons_zero, List.getElem_cons_succ, Act.put, List.setIfInBounds_toArray, List.set_cons_zero, List.set_cons_succ]
  refine wpAnyH_ready (rs := [2]) (by kernel_rfl) (by simp) ?_
  refine AllReadyH.cons rfl (fun K hK => ?_) AllReadyH.nil
  rw [if_pos (show Region.wanted _ _ = true from by rfl)]
  refine wp_store_row 30 _ _ rfl fv (fltA V) rfl rfl 30 _ hz4_0 (by kernel_rfl) rfl (by kernel_rfl) ?_
  refine hK.out _ _ ⟨(by first | exact below_setRow hS0.1 (by omega) _ | exact hS0.1.setRow_far (by omega) _ | exact (World.cell?_of_block (setRow_block _ _ _ _ (by first | omega | (dsimp only; omega)))).trans hS0.1 | exact hS0.1.only (only_setRow _ _ _) (fun k e => by (have e : k = _ := e); omega)), (by first | exact below_setRow hS0.2 (by omega) _ | exact hS0.2.setRow_far (by omega) _ | exact (World.cell?_of_block (setRow_block _ _ _ _ (by first | omega | (dsimp only; omega)))).trans hS0.2 | exact hS0.2.only (only_setRow _ _ _) (fun k e => by (have e : k = _ := e); omega))⟩ (fun hS1 => ?_)
  clear hK K
  have hz4_1 := hz4_0.setRow (fltA V)
  clear hS0
  generalize v0.setRow fv (fltA V) = v1 at *
  simp only [List.getElem_toArray, List.getElem_cons_zero, List.getElem_cons_succ, Act.put, List.setIfInBounds_toArray, List.set_cons_zero, List.set_cons_succ]
  refine wpAnyH_done (by kernel_rfl) ?_ _
  have hG := hS1.1
  have hb04 := hS1.2
  clear hS1
  have hz4 := hz4_1
  go_wp2_with fail
  exact bodyPost_ret (results_tc rfl rfl hz4 Try.underlying30 rfl (by kernel_rfl)) rfl ⟨by rw [HV.out]; rfl, hb04⟩
set_option maxRecDepth 100000 in
set_option maxHeartbeats 8000000 in
/-- On to a stamp, from 0, while the timer stands still. -/
theorem hdTo_off (p t l bu a po vd vc n c : Nat) (o : Option Addr) (St : Nat → Int) (Ln : Nat → Nat) (Up : Nat → Bool) (stamp : Int) (w : World) (h0 : 0 < stamp) (h1 : stamp ≤ 9223372036854775807) (hok : EdgOk n St Ln) (hH : HW w p t l bu a po vd vc 0) (hT : TB w t 0 0 false 3072)
    (hL : LB w l o n c 0 Ln Up false) (hE : EdgB w o n St Ln Up l) (hlp : l < p) :
    Calls Try.prog 42 #[.pointer (some ⟨p, 0, none⟩), .int .i64 stamp] w fun e w' => e = .returned (.tuple #[]) ∧ HW w' p t l bu a po vd vc stamp ∧
      LB w' l o n c (toE St Ln Up stamp n 0 false).1 Ln Up (toE St Ln Up stamp n 0 false).2 ∧ Only (fun j => j = l ∨ j = p) w w' := by
  have c0 : w.cell? ⟨p, 0, none⟩ = some (.pointer (some ⟨t, 0, none⟩)) := Blk.cell hH 0
  have c7 : w.cell? ⟨p, 7, none⟩ = some (.int .i64 0) := Blk.cell hH 7
  have i1 : (decide (stamp ≤ 0)) = false := by rw [decide_eq_false_iff_not]; omega
  have i2 : IntKind.i64.wrap stamp = stamp := by rw [IntKind.wrap_i64]; omega
  have hll : l < w.heap.size := Blk.lt hL
  have ho0 : Only (fun j => j = l ∨ j = p) w w := Only.refl _ _
  go_enter Try.func42, Try.ntmps42
  go_wp2_with fail
  refine wp_region_held_drew (S := fun W => W.cell? ⟨p, 0, none⟩ = some (.pointer (some ⟨t, 0, none⟩)) ∧ W.cell? ⟨p, 7, none⟩ = some (.int .i64 0) ∧ HW W p t l bu a po vd vc 0 ∧ TB W t 0 0 false 3072 ∧ LB W l o n c 0 Ln Up false ∧ EdgB W o n St Ln Up l ∧ Only (fun j => j = l ∨ j = p) w W) (by kernel_rfl) ⟨(by first | exact c0.drew | exact c0 | exact Below.drew c0), (by first | exact c7.drew | exact c7 | exact Below.drew c7), (by first | exact hH.drew | exact hH | exact Below.drew hH), (by first | exact hT.drew | exact hT | exact Below.drew hT), (by first | exact hL.drew | exact hL | exact Below.drew hL), (by first | exact hE.drew | exact hE | exact Below.drew hE), (by first | exact ho0.drew | exact ho0 | exact Below.drew ho0)⟩ (fun hS0 => ?_)
  clear c0 c7 hH hT hL hE ho0
  change wpAnyH _ _ _ _ _ 12 #[false, false, false, false, false, false, false, false, false, false, false, false] _ _
  generalize w.drew = v0 at *
  refine wpAnyH_take (i := 0) (v := ?_) rfl (by kernel_rfl) (by kernel_rfl) (by kernel_rfl) (fun _ _ _ h => h) (Or.inl ⟨by rfl, ?_⟩) hS0 ?_
  rotate_left
  · (intro w hSw; (try dsimp only at hSw); go_simp; try with_reducible rfl)
  simp only [List.getElem_toArray, List.getElem_cons_zero, List.getElem_cons_succ, Act.put, List.setIfInBounds_toArray, List.set_cons_zero, List.set_cons_succ]
  refine wpAnyH_take (i := 1) (v := ?_) rfl (by kernel_rfl) (by kernel_rfl) (by kernel_rfl) (fun _ _ _ h => h) (Or.inl ⟨by rfl, ?_⟩) hS0 ?_
  rotate_left
  · (intro w hSw; (try dsimp only at hSw); go_simp; try with_reducible rfl)
  simp only [List.getElem_toArray, List.getElem_cons_zero, List.getElem_cons_succ, Act.put, List.setIfInBounds_toArray, List.set_cons_zero, List.set_cons_succ]
  refine wpAnyH_take (i := 2) (v := ?_) rfl (by kernel_rfl) (by kernel_rfl) (by kernel_rfl) (fun _ _ _ h => h) (Or.inl ⟨by rfl, ?_⟩) hS0 ?_
  rotate_left
  · (intro w hSw; (try dsimp only at hSw); go_simp; try with_reducible rfl)
  simp only [List.getElem_toArray, List.getElem_cons_zero, List.getElem_cons_succ, Act.put, List.setIfInBounds_toArray, List.set_cons_zero, List.set_cons_succ]
  refine wpAnyH_take (i := 3) (v := ?_) rfl (by kernel_rfl) (by kernel_rfl) (by kernel_rfl) (fun _ _ _ h => h) (Or.inl ⟨by rfl, ?_⟩) hS0 ?_
  rotate_left
  · (intro w hSw; (try dsimp only at hSw); go_simp; try with_reducible rfl)
  simp only [List.getElem_toArray, List.getElem_cons_zero, List.getElem_cons_succ, Act.put, List.setIfInBounds_toArray, List.set_cons_zero, List.set_cons_succ]
  refine wpAnyH_take (i := 4) (v := ?_) rfl (by kernel_rfl) (by kernel_rfl) (by kernel_rfl) (fun _ _ _ h => h) (Or.inl ⟨by rfl, ?_⟩) hS0 ?_
  rotate_left
  · (intro w hSw; (try dsimp only at hSw); go_simp; try with_reducible rfl)
  simp only [List.getElem_toArray, List.getElem_cons_zero, List.getElem_cons_succ, Act.put, List.setIfInBounds_toArray, List.set_cons_zero, List.set_cons_succ]
  refine wpAnyH_take (i := 5) (v := ?_) rfl (by kernel_rfl) (by kernel_rfl) (by kernel_rfl) (fun _ _ _ h => h) (Or.inl ⟨by rfl, ?_⟩) hS0 ?_
  rotate_left
  · (intro w hSw; (try dsimp only at hSw); go_simp; try with_reducible rfl)
  simp only [List.getElem_toArray, List.getElem_cons_zero, List.getElem_cons_succ, Act.put, List.setIfInBounds_toArray, List.set_cons_zero, List.set_cons_succ]
  refine wpAnyH_take (i := 6) (v := ?_) rfl (by kernel_rfl) (by kernel_rfl) (by kernel_rfl) (fun _ _ _ h => h) (Or.inl ⟨by rfl, ?_⟩) hS0 ?_
  rotate_left
  · (intro w hSw; (try dsimp only at hSw); go_simp; try with_reducible rfl)
  simp only [List.getElem_toArray, List.getElem_cons_zero, List.getElem_cons_succ, Act.put, List.setIfInBounds_toArray, List.set_cons_zero, List.set_cons_succ]
  refine wpAnyH_take (i := 7) (v := ?_) rfl (by kernel_rfl) (by kernel_rfl) (by kernel_rfl) (fun _ _ _ h => h) (Or.inl ⟨by rfl, ?_⟩) hS0 ?_
  rotate_left
  · (intro w hSw; (try dsimp only at hSw); go_simp; try with_reducible rfl)
  simp only [List.getElem_toArray, List.getElem_cons_zero, List.getElem_cons_succ, Act.put, List.setIfInBounds_toArray, List.set_cons_zero, List.set_cons_succ]
  refine wpAnyH_take (i := 8) (v := ?_) rfl (by kernel_rfl) (by kernel_rfl) (by kernel_rfl) (fun _ _ _ h => h) (Or.inl ⟨by rfl, ?_⟩) hS0 ?_
  rotate_left
  · (intro w hSw; (try dsimp only at hSw); go_simp; try with_reducible rfl)
  simp only [List.getElem_toArray, List.getElem_cons_zero, List.getElem_cons_succ, Act.put, List.setIfInBounds_toArray, List.set_cons_zero, List.set_cons_succ]
  refine wpAnyH_take (i := 9) (v := ?_) rfl (by kernel_rfl) (by kernel_rfl) (by kernel_rfl) (fun _ _ _ h => h) (Or.inl ⟨by rfl, ?_⟩) hS0 ?_
  rotate_left
  · (intro w hSw; (try dsimp only at hSw); go_simp; try with_reducible rfl)
  simp only [List.getElem_toArray, List.getElem_cons_zero, List.getElem_cons_succ, Act.put, List.setIfInBounds_toArray, List.set_cons_zero, List.set_cons_succ]
  refine wpAnyH_ready (rs := [10]) (by kernel_rfl) (by simp) ?_
  refine AllReadyH.cons rfl (fun K hK => ?_) AllReadyH.nil
  go_simp
  refine (tmOff_calls t 0 0 stamp _ hS0.2.2.2.1).mono ?_
  rintro e w' ⟨rfl, rfl⟩
  (try go_simp)
  refine hK.out _ _ hS0 (fun _ => ?_)
  clear hK K
  simp only [List.getElem_toArray, List.getElem_cons_zero, List.getElem_cons_succ, Act.put, List.setIfInBounds_toArray, List.set_cons_zero, List.set_cons_succ]
  refine wpAnyH_take (i := 11) (v := ?_) rfl (by kernel_rfl) (by kernel_rfl) (by kernel_rfl) (fun _ _ _ h => h) (Or.inl ⟨by rfl, ?_⟩) hS0 ?_
  rotate_left
  · (intro w hSw; (try dsimp only at hSw); go_simp; try with_reducible rfl)
  simp only [List.getElem_toArray, List.getElem_cons_zero, List.getElem_cons_succ, Act.put, List.setIfInBounds_toArray, List.set_cons_zero, List.set_cons_succ]
  refine wpAnyH_done (by kernel_rfl) ?_ _
  have c0 := hS0.1
  have c7 := hS0.2.1
  have hH := hS0.2.2.1
  have hT := hS0.2.2.2.1
  have hL := hS0.2.2.2.2.1
  have hE := hS0.2.2.2.2.2.1
  have ho0 := hS0.2.2.2.2.2.2
  clear hS0
  generalize v0 = w1 at *
  have d1 : w1.cell? ⟨p, 1, none⟩ = some (.pointer (some ⟨l, 0, none⟩)) := Blk.cell hH 1
  go_wp2_with fail
  refine (lnTo_n l o n c 0 St Ln Up false stamp w1 hok (Nat.zero_le _) hL (hE.mono (Nat.le_of_lt (Blk.lt hL))) (fun hn x hx e => by
    obtain ⟨b, off, hb, hlt, _⟩ := hE 0 hn
    rw [hb] at hx
    injection hx with hx
    subst hx
    simp at e
    omega)).mono ?_
  rintro e w2 ⟨⟨v, rfl⟩, hL2, ho2⟩
  have hH2 : HW w2 p t l bu a po vd vc 0 := Blk.only hH ho2 (by omega)
  have f7 : w2.frozen? ⟨p, 7, none⟩ = false := Blk.frozen hH2 7
  have e7 : w2.cell? ⟨p, 7, none⟩ = some (.int .i64 0) := Blk.cell hH2 7
  have ho3 := ho0.trans (ho2.mono (fun k _ h => .inl h))
  rw [Nat.sub_zero] at hL2
  go_wp2_with fail
  go_end0
  exact ⟨rfl, Blk.set_ hH2 7 (.int .i64 stamp), Blk.far hL2 (p := ⟨p, 7, none⟩) (Nat.ne_of_lt hlp) _, Only.setCell ho3 ⟨p, 7, none⟩ (.inr rfl) _⟩
theorem hdTo_stay (p t l bu a po vd vc : Nat) (stamp : Int) (w : World) (h0 : stamp ≤ 0) (hH : HW w p t l bu a po vd vc 0) :
    Calls Try.prog 42 #[.pointer (some ⟨p, 0, none⟩), .int .i64 stamp] w fun e w' => e = .returned (.tuple #[]) ∧ w = w' := by
  have c7 : w.cell? ⟨p, 7, none⟩ = some (.int .i64 0) := Blk.cell hH 7
  go_enter Try.func42, Try.ntmps42
  go_wp2_with fail
  exact bodyPost_ret (results_none rfl _ _ _) rfl ⟨rfl, rfl⟩
theorem whr_6144 : whr 2095104 = 2 := by decide
theorem hdRead_no (p : Nat) (w : World) :
    Calls Try.prog 45 #[.pointer (some ⟨p, 0, none⟩), .int .u16 6144] w fun e w' => e = .returned (.int .u8 255) ∧ Below w.heap.size w w' := by
  have hw : ∀ W : World, Calls Try.prog 12 #[.int .u32 2095104] W fun e w' => e = .returned (.int .u8 2) ∧ Below W.heap.size W w' := fun W => by
    have := phWhere_calls 2095104 W (by decide)
    rw [show ((whr 2095104 : Nat) : Int) = 2 from by rw [whr_6144]; rfl] at this
    exact this
  have ha : ∀ W : World, Calls Try.prog 27 #[.int .u8 255, .int .u16 6144] W fun e w' => e = .returned (.int .u32 2095104) ∧ W = w' := fun W => by
    have := phAddr_calls 255 6144 W (by omega) (by omega)
    rw [show ((adr 255 6144 : Nat) : Int) = 2095104 from by rw [show adr 255 6144 = 2095104 from by decide]; rfl] at this
    exact this
  have hpl : ∀ W : World, Calls Try.prog 57 #[.int .u16 6144] W fun e w' => e = .returned (.int .u32 2095104) ∧ W = w' := fun W => by
    go_enter Try.func57, Try.ntmps57
    (go_wp2_with fail; refine Cl.p (ha _) ?_)
    go_wp2_with fail
    go_ret
    exact ⟨rfl, rfl⟩
  clear ha
  go_enter Try.func45, Try.ntmps45
  (go_wp2_with fail; refine Cl.p (hpl _) ?_)
  go_wp2_with fail
  refine Cl.m (hw _) ?_
  intro w1 hb1
  clear hw hpl
  go_wp2_with fail
  go_ret
  exact ⟨rfl, hb1⟩
end Go.Proofs.Ytemfdkoipeedeaa
