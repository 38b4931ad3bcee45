/-
  gannettop: TopLongest.
-/
import Derived.Test.YtodimiffmmkndaaDoorMr6
import Derived.Test.YtodimiffmmkndaaDoorOpenA
import Derived.Test.YtodimiffmmkndaaDoorObit
import Derived.Shelf.Vars
namespace Go.Proofs.YtodimiffmmkndaaDoor
set_option linter.unusedSimpArgs false
set_option linter.unusedVariables false
set_option maxRecDepth 10000
open Go.RowKit Go.Shelf Pl
theorem run_neq_op (x : OpM) (w : World) : (binOp .neq 39 (.agg #[Value.int .u8 (x.1.toNat : Int), Value.int .u8 (x.2.1.toNat : Int), Value.int .u8 (x.2.2.1.toNat : Int), Value.bool x.2.2.2]) (.agg #[Value.int .u8 (x.1.toNat : Int), Value.int .u8 (x.2.1.toNat : Int), Value.int .u8 (x.2.2.1.toNat : Int), Value.bool x.2.2.2])).run Tryd.prog w = .ok (.bool false) w := by
  have hu : Tryd.prog.underlying 39 = some (.struct (Tryd.prog.fieldsOf 39)) := by kernel_rfl
  have hp : Tryd.prog.stoodInHeld 39 = false := by kernel_rfl
  have h8 : ∀ w, (isAgg 5).run Tryd.prog w = .ok false w := fun w => by simp [isAgg, run_underlying Tryd.underlying5]
  have hb : ∀ w, (isAgg 4).run Tryd.prog w = .ok false w := fun w => by simp [isAgg, run_underlying Tryd.underlying4]
  rw [run_neq_struct, run_equalIn_agg w 9999 39 _ _ hu hp]
  simp only [Program.fieldsOf, Tryd.underlying39]
  simp [Op.eqFields, part, h8, hb, run_equalIn_bool' _ _ _ _ _ Tryd.underlying4, run_equalIn_int _ _ 5 _ _ _ _ Tryd.underlying5]
theorem run_load_op (x : OpM) (g i : Nat) (w : World) (h : w.rangeAt g i [Value.int .u8 (x.1.toNat : Int), Value.int .u8 (x.2.1.toNat : Int), Value.int .u8 (x.2.2.1.toNat : Int), Value.bool x.2.2.2]) : (Instr.loadAt 39 (.pointer (some ⟨g, i, none⟩))).run Tryd.prog w = .ok (.agg #[Value.int .u8 (x.1.toNat : Int), Value.int .u8 (x.2.1.toNat : Int), Value.int .u8 (x.2.2.1.toNat : Int), Value.bool x.2.2.2]) w :=
  run_loadAt_mid w g i 39 [Value.int .u8 (x.1.toNat : Int), Value.int .u8 (x.2.1.toNat : Int), Value.int .u8 (x.2.2.1.toNat : Int), Value.bool x.2.2.2] _ h Tryd.underlying39 rfl (by kernel_rfl)
theorem run_cycles (s : ByteArray) (q z cy : Int) (w : World) : (Instr.field 30 (.agg #[.string s, .int .u8 q, .int .i64 z, .int .i64 cy]) 3).run Tryd.prog w = .ok (.int .i64 cy) w := by kernel_rfl
/-- All that is wanted of a byte. -/
theorem byteB (b : Nat) (hb : b < 256) : ∃ (s : ByteArray) (q z : Nat) (cy : Int) (L : List OpM) (l : Nat), opV b = #[.string s, .int .u8 (q : Int), .int .i64 (z : Int), .int .i64 cy] ∧ s.size ≤ 4 ∧ q < 20 ∧ (1 ≤ z ∧ z ≤ 7) ∧
    prgS s q z cy = ⟨(TX L).toArray⟩ ∧ (∀ x ∈ L, okS x = true) ∧ 0 < L.length ∧ L.length ≤ 30 ∧ szM L = l ∧ cy ≤ (l : Int) ∧ 0 < l ∧ (allS s q z cy).length = l ∧ (q = 0 → 2 ≤ cy ∧ cy ≤ 22) ∧ ((q = 0 ∨ q = 1 ∨ q = 11) → (nmdS s).2 = false → (z : Int) ≤ cy ∧ cy ≤ 22) := by
  have h := chk_all b hb
  unfold chk at h
  have hs := nameS_le _ (nmB_size b hb)
  have hq := modeB_lt b hb
  have hz := sizB_le b
  have ho : opV b = #[.string (nameS (nmB b)), .int .u8 (modeB b : Int), .int .i64 (sizB b : Int), .int .i64 (cycM (nameS (nmB b)) (modeB b))] := by
    unfold opV
    rw [sizB_eq]
  generalize cycM (nameS (nmB b)) (modeB b) = cy at *
  generalize nameS (nmB b) = s at *
  generalize modeB b = q at *
  generalize sizB b = z at *
  generalize hP : prgS s q z cy = P at *
  generalize parse 30 P.data.toList = L at *
  generalize hl : (allS s q z cy).length = l at *
  unfold chkV at h
  simp only [Bool.and_eq_true, decide_eq_true_eq, beq_iff_eq, List.all_eq_true] at h
  obtain ⟨⟨⟨⟨⟨⟨⟨⟨h1, h2⟩, h3⟩, h4⟩, h5⟩, h6⟩, h7⟩, h8⟩, h9⟩ := h
  refine ⟨s, q, z, cy, L, l, ho, hs, hq, hz, ?_, h2, h3, h4, h5, h6, h7, hl, h8, h9⟩
  rw [hP, h1]
/-- micro.Of. -/
theorem mof_calls (b : Nat) (M : Int) (w : World) (hb : b < 256) (hM : w.cell? ⟨0, 0, none⟩ = some (.int .i64 M)) (s : ByteArray) (q z : Nat) (cy : Int) (L : List OpM) (ho : opV b = #[.string s, .int .u8 (q : Int), .int .i64 (z : Int), .int .i64 cy]) (hs : s.size ≤ 4) (hq : q < 20) (hz : 1 ≤ z ∧ z ≤ 7)
    (hP : prgS s q z cy = ⟨(TX L).toArray⟩) (hok : ∀ x ∈ L, okS x = true) (h0 : 0 < L.length) (h30 : L.length ≤ 30) (hcy : q = 0 → 2 ≤ cy ∧ cy ≤ 22) :
    Calls Tryd.prog 5 #[.int .u8 (b : Int)] w fun e w' => ∃ g cap, e = .returned (.slice (some ⟨g, 0, none⟩) L.length cap) ∧ OpsAt w' g L ∧ Below w.heap.size w w' := by
  have hof := opOf_calls b M w hb hM
  rw [ho] at hof
  have hpr := fun W => prg_calls s q z cy W hq hs hz hcy
  rw [hP] at hpr
  have hrd := fun W (hMW : W.cell? ⟨0, 0, none⟩ = some (.int .i64 M)) => read_calls L M W h0 h30 hok hMW
  clear ho hP hcy
  go_enter Tryd.func5, Tryd.ntmps5
  go_wp2_with fail
  refine Cl.m hof ?_
  intro w1 hb1
  go_wp2_with fail
  refine Cl.m (hpr _) ?_
  intro w2 hb2
  have hb02 := hb1.trans (hb2.mono hb1.size)
  have hM2 := (hb02.cell (p := ⟨0, 0, none⟩) (cell_lt hM)).trans hM
  clear hof hb1 hb2
  go_wp2_with fail
  refine (hrd _ hM2).mono ?_
  rintro e w3 ⟨v, rfl, hown, hb3⟩
  obtain ⟨g, cap, rfl, hg, hlt, hA⟩ := own4_ops L hown h0
  have hb03 := hb02.trans (hb3.mono hb02.size)
  go_wp2_with fail
  go_ret
  exact ⟨g, cap, rfl, hA.low (Bl.alloc (Below.refl _ _) _), Bl.alloc hb03 _⟩
set_option maxRecDepth 100000 in
set_option maxHeartbeats 8000000 in
theorem topLongest_calls (b : Nat) (M : Int) (w : World) (hb : b < 256) (hM : w.cell? ⟨0, 0, none⟩ = some (.int .i64 M)) :
    Calls Tryd.prog 3 #[.int .u8 (b : Int)] w fun e w' => e = .returned (.bool true) ∧ Below w.heap.size w w' := by
  obtain ⟨s, q, z, cy, L, l, ho, hs, hq, hz, hP, hok, h0, h30, hsz, hcl, hl0, hal, hcy1, hcy2⟩ := byteB b hb
  have hbit : Calls Tryd.prog 4 #[.int .u8 1, .int .i64 0] w fun e w' => e = .returned (.bool true) ∧ w = w' := octBit_calls 1 0 w (by omega)
  have hM0 : (⟨0, 0, none⟩ : Addr).block < w.heap.size := cell_lt hM
  have hmo := mof_calls b M w hb hM s q z cy L ho hs hq hz hP hok h0 h30 hcy1
  have hco := fun W (hMW : W.cell? ⟨0, 0, none⟩ = some (.int .i64 M)) => count_calls b M W hb hMW s q z cy ho hq hs hz hcy2
  rw [hal] at hco
  have hsi := fun W g cap (h : OpsAt W g L) => size_calls L g cap W h30 h
  rw [hsz] at hsi
  have hof := fun W (hMW : W.cell? ⟨0, 0, none⟩ = some (.int .i64 M)) => opOf_calls b M W hb hMW
  rw [ho] at hof
  have htx := fun W g cap (h : OpsAt W g L) => textO_calls L g cap W h30 hok h
  have hrd := fun W (hMW : W.cell? ⟨0, 0, none⟩ = some (.int .i64 M)) => read_calls L M W h0 h30 hok hMW
  have hrc := run_cycles s (q : Int) (z : Int) cy
  have hneq := run_neq_op
  clear ho hP hok hcy1 hcy2 hal hsz hs hq hz
  obtain ⟨n, hn⟩ : ∃ n, L.length = n := ⟨_, rfl⟩
  rw [hn] at hmo hsi htx h0 h30
  have hnn : ((n : Int) != (n : Int)) = false := bne_self_eq_false _
  have hll : ((l : Int) != (l : Int)) = false := bne_self_eq_false _
  have hlc : (decide ((l : Int) < cy)) = false := decide_eq_false (by omega)
  have hlz : ((l : Int) == 0) = false := by rw [beq_eq_false_iff_ne]; omega
  go_enter Tryd.func3, Tryd.ntmps3
  go_wp2_with fail
  refine Cl.p hbit ?_
  go_wp2_with fail
  refine hmo.mono ?_
  rintro e w1 ⟨g, cap, rfl, hA1, hb1⟩
  have hM1 := (hb1.cell (p := ⟨0, 0, none⟩) hM0).trans hM
  clear hmo hbit
  go_wp2_with fail
  refine Cl.m (hco _ hM1) ?_
  intro w2 hb2
  have hA2 := hA1.low hb2
  have hb02 := hb1.trans (hb2.mono hb1.size)
  have hM2 := (hb02.cell (p := ⟨0, 0, none⟩) hM0).trans hM
  clear hA1 hb1 hb2 hM1 hco
  go_wp2_with fail
  refine Cl.m (hsi _ g cap hA2) ?_
  intro w3 hb3
  have hA3 := hA2.low hb3
  have hb03 := hb02.trans (hb3.mono hb02.size)
  have hM3 := (hb03.cell (p := ⟨0, 0, none⟩) hM0).trans hM
  clear hA2 hb02 hb3 hM2 hsi
  go_wp2_with fail
  refine Cl.m (hof _ hM3) ?_
  intro w4 hb4
  have hA4 := hA3.low hb4
  have hb04 := hb03.trans (hb4.mono hb03.size)
  clear hA3 hb03 hb4 hM3 hof
  go_wp2_with fail
  refine Cl.m (htx _ g cap hA4) ?_
  intro w5 hb5
  have hA5 := hA4.low hb5
  have hb05 := hb04.trans (hb5.mono hb04.size)
  have hM5 := (hb05.cell (p := ⟨0, 0, none⟩) hM0).trans hM
  clear hA4 hb04 hb5 htx hrc
  go_wp2_with fail
  refine (hrd _ hM5).mono ?_
  rintro e w6 ⟨v, rfl, hown, hb6⟩
  obtain ⟨g2, cap2, rfl, hg2, hlt2, hB6⟩ := own4_ops L hown (by omega)
  rw [hn]
  have hA6 := hA5.low hb6
  have hb06 := hb05.trans (hb6.mono hb05.size)
  have hA7 : OpsAt (w6.alloc (.cells #[Value.int .i64 0, Value.int .i64 0] 34)) g L := hA6.low (Bl.alloc (Below.refl _ _) _)
  have hB7 : OpsAt (w6.alloc (.cells #[Value.int .i64 0, Value.int .i64 0] 34)) g2 L := hB6.low (Bl.alloc (Below.refl _ _) _)
  have hb07 : Below w.heap.size w (w6.alloc (.cells #[Value.int .i64 0, Value.int .i64 0] 34)) := Bl.alloc hb06 _
  clear hA5 hA6 hB6 hb05 hb06 hb6 hown hrd hM5
  go_wp2_with fail
  generalize w6.alloc (.cells #[Value.int .i64 0, Value.int .i64 0] 34) = w7 at *
  go_loopw [7] (fun v7 wr => ∃ k : Nat, k ≤ n ∧ v7 = .int .i64 (k : Int) ∧ Below w7.heap.size w7 wr) (fun v7 _ => n - (intOf v7).toNat)
  case atStart => exact ⟨0, by omega, rfl, Below.refl _ _⟩
  case round =>
    obtain ⟨k, hk, rfl, hbr⟩ := hrel
    rcases Nat.lt_or_ge k n with hlt | hge
    · obtain ⟨x, hxk⟩ : ∃ x, L[k]? = some x := ⟨L[k], List.getElem?_eq_getElem (by omega)⟩
      have hrA := (hA7.low hbr) k x hxk
      have hrB := (hB7.low hbr) k x hxk
      have k1 : (k : Int) < (n : Int) := by omega
      have a0 : wr.cell? ⟨g, k * 4, none⟩ = some (.int .u8 (x.1.toNat : Int)) := hrA 0 _ rfl
      have a1 : wr.cell? ⟨g, k * 4 + 1, none⟩ = some (.int .u8 (x.2.1.toNat : Int)) := hrA 1 _ rfl
      have a2 : wr.cell? ⟨g, k * 4 + 2, none⟩ = some (.int .u8 (x.2.2.1.toNat : Int)) := hrA 2 _ rfl
      have a3 : wr.cell? ⟨g, k * 4 + 3, none⟩ = some (.bool x.2.2.2) := hrA 3 _ rfl
      have d0 : wr.cell? ⟨g2, k * 4, none⟩ = some (.int .u8 (x.1.toNat : Int)) := hrB 0 _ rfl
      have d1 : wr.cell? ⟨g2, k * 4 + 1, none⟩ = some (.int .u8 (x.2.1.toNat : Int)) := hrB 1 _ rfl
      have d2 : wr.cell? ⟨g2, k * 4 + 2, none⟩ = some (.int .u8 (x.2.2.1.toNat : Int)) := hrB 2 _ rfl
      have d3 : wr.cell? ⟨g2, k * 4 + 3, none⟩ = some (.bool x.2.2.2) := hrB 3 _ rfl
      clear hrA hrB
      have hneq := run_neq_op x
      go_wp2_with fail
      refine wp_region_held_drew (S := fun W => W.cell? ⟨g, k * 4, none⟩ = some (.int .u8 (x.1.toNat : Int)) ∧ W.cell? ⟨g, k * 4 + 1, none⟩ = some (.int .u8 (x.2.1.toNat : Int)) ∧ W.cell? ⟨g, k * 4 + 2, none⟩ = some (.int .u8 (x.2.2.1.toNat : Int)) ∧ W.cell? ⟨g, k * 4 + 3, none⟩ = some (.bool x.2.2.2) ∧ W.cell? ⟨g2, k * 4, none⟩ = some (.int .u8 (x.1.toNat : Int)) ∧ W.cell? ⟨g2, k * 4 + 1, none⟩ = some (.int .u8 (x.2.1.toNat : Int)) ∧ W.cell? ⟨g2, k * 4 + 2, none⟩ = some (.int .u8 (x.2.2.1.toNat : Int)) ∧ W.cell? ⟨g2, k * 4 + 3, none⟩ = some (.bool x.2.2.2) ∧ Below w7.heap.size w7 W) (by kernel_rfl) ⟨(by first | exact a0.drew | exact a0 | exact Below.drew a0), (by first | exact a1.drew | exact a1 | exact Below.drew a1), (by first | exact a2.drew | exact a2 | exact Below.drew a2), (by first | exact a3.drew | exact a3 | exact Below.drew a3), (by first | exact d0.drew | exact d0 | exact Below.drew d0), (by first | exact d1.drew | exact d1 | exact Below.drew d1), (by first | exact d2.drew | exact d2 | exact Below.drew d2), (by first | exact d3.drew | exact d3 | exact Below.drew d3), (by first | exact hbr.drew | exact hbr | exact Below.drew hbr)⟩ (fun hS0 => ?_)
      clear a0 a1 a2 a3 d0 d1 d2 d3 hbr
      change wpAnyH _ _ _ _ _ 9 #[false, false, false, false, false, false, false, false, false] _ _
      generalize wr.drew = v0 at *
      refine wpAnyH_take (i := 0) (v := ?_) rfl (by kernel_rfl) (by kernel_rfl) (by kernel_rfl) (fun _ _ _ h => h) (Or.inl ⟨by rfl, ?_⟩) hS0 ?_
      rotate_left
      · (intro w hSw; (try dsimp only at hSw); go_simp; try with_reducible rfl)
      simp only [List.getElem_toArray, List.getElem_cons_zero, List.getElem_cons_succ, Act.put, List.setIfInBounds_toArray, List.set_cons_zero, List.set_cons_succ]
      refine wpAnyH_take (i := 1) (v := ?_) rfl (by kernel_rfl) (by kernel_rfl) (by kernel_rfl) (fun _ _ _ h => h) (Or.inl ⟨by rfl, ?_⟩) hS0 ?_
      rotate_left
      · (intro w hSw; (try dsimp only at hSw); go_simp; try with_reducible rfl)
      simp only [List.getElem_toArray, List.getElem_cons_zero, List.getElem_cons_succ, Act.put, List.setIfInBounds_toArray, List.set_cons_zero, List.set_cons_succ]
      refine wpAnyH_take (i := 2) (v := ?_) rfl (by kernel_rfl) (by kernel_rfl) (by kernel_rfl) (fun _ _ _ h => h) (Or.inl ⟨by rfl, ?_⟩) hS0 ?_
      rotate_left
      · (intro w hSw; (try dsimp only at hSw); go_simp; try with_reducible rfl)
      simp only [List.getElem_toArray, List.getElem_cons_zero, List.getElem_cons_succ, Act.put, List.setIfInBounds_toArray, List.set_cons_zero, List.set_cons_succ]
      refine wpAnyH_take (i := 3) (v := ?_) rfl (by kernel_rfl) (by kernel_rfl) (by kernel_rfl) (fun _ _ _ h => h) (Or.inl ⟨by rfl, ?_⟩) hS0 ?_
      rotate_left
      · (intro w hSw; (try dsimp only at hSw); go_simp; try with_reducible rfl)
      simp only [List.getElem_toArray, List.getElem_cons_zero, List.getElem_cons_succ, Act.put, List.setIfInBounds_toArray, List.set_cons_zero, List.set_cons_succ]
      refine wpAnyH_take (i := 4) (v := ?_) rfl (by kernel_rfl) (by kernel_rfl) (by kernel_rfl) (fun _ _ _ h => h) (Or.inl ⟨by rfl, ?_⟩) hS0 ?_
      rotate_left
      · (intro w hSw; (try dsimp only at hSw); go_simp; try with_reducible rfl)
      simp only [List.getElem_toArray, List.getElem_cons_zero, List.getElem_cons_succ, Act.put, List.setIfInBounds_toArray, List.set_cons_zero, List.set_cons_succ]
      refine wpAnyH_take (i := 5) (v := ?_) rfl (by kernel_rfl) (by kernel_rfl) (by kernel_rfl) (fun _ _ _ h => h) (Or.inl ⟨by rfl, ?_⟩) hS0 ?_
      rotate_left
      · (intro w hSw; (try dsimp only at hSw); go_simp; try with_reducible rfl)
      simp only [List.getElem_toArray, List.getElem_cons_zero, List.getElem_cons_succ, Act.put, List.setIfInBounds_toArray, List.set_cons_zero, List.set_cons_succ]
      refine wpAnyH_take (i := 6) (v := ?_) rfl (by kernel_rfl) (by kernel_rfl) (by kernel_rfl) (fun _ _ _ h => h) (Or.inl ⟨by rfl, ?_⟩) hS0 ?_
      rotate_left
      · (intro w hSw; (try dsimp only at hSw); go_simp; try with_reducible rfl)
      simp only [List.getElem_toArray, List.getElem_cons_zero, List.getElem_cons_succ, Act.put, List.setIfInBounds_toArray, List.set_cons_zero, List.set_cons_succ]
      refine wpAnyH_take (i := 7) (v := ?_) rfl (by kernel_rfl) (by kernel_rfl) (by kernel_rfl) (fun _ _ _ h => h) (Or.inl ⟨by rfl, ?_⟩) hS0 ?_
      rotate_left
      · (intro w hSw; (try dsimp only at hSw); go_simp; try with_reducible rfl)
      simp only [List.getElem_toArray, List.getElem_cons_zero, List.getElem_cons_succ, Act.put, List.setIfInBounds_toArray, List.set_cons_zero, List.set_cons_succ]
      refine wpAnyH_take (i := 8) (v := ?_) rfl (by kernel_rfl) (by kernel_rfl) (by kernel_rfl) (fun _ _ _ h => h) (Or.inl ⟨by rfl, ?_⟩) hS0 ?_
      rotate_left
      · (intro w hSw; (try dsimp only at hSw); go_simp; try with_reducible rfl)
      simp only [List.getElem_toArray, List.getElem_cons_zero, List.getElem_cons_succ, Act.put, List.setIfInBounds_toArray, List.set_cons_zero, List.set_cons_succ]
      refine wpAnyH_done (by kernel_rfl) ?_ _
      have a0 := hS0.1
      have a1 := hS0.2.1
      have a2 := hS0.2.2.1
      have a3 := hS0.2.2.2.1
      have d0 := hS0.2.2.2.2.1
      have d1 := hS0.2.2.2.2.2.1
      have d2 := hS0.2.2.2.2.2.2.1
      have d3 := hS0.2.2.2.2.2.2.2.1
      have hbr := hS0.2.2.2.2.2.2.2.2
      clear hS0
      go_wp2_with fail
      refine ⟨⟨k + 1, by omega, by go_num, hbr⟩, ?_⟩
      simp [intOf]
      omega
    · obtain rfl : k = n := by omega
      have k2 : (decide ((k : Int) < (k : Int))) = false := decide_eq_false (by omega)
      go_wp2_with fail
      go_ret
      exact ⟨rfl, hb07.trans (hbr.mono hb07.size)⟩
section
open Go.ChangeShapes Go.WideShapes Go.ChangeAt
theorem maxLen_cell {W : World} (h : W.ShapedOpen Tryd.prog) : ∃ M, W.cell? ⟨0, 0, none⟩ = some (.int .i64 M) :=
  Go.Proofs.cell_of_shapedOpen_int (zero := #[.int .i64 0]) (t := 3) h (of_decide_eq_true (by kernel_rfl)) (by kernel_rfl) rfl (by kernel_rfl) (by kernel_rfl) Tryd.underlying3
theorem walk_TopLongest {H : Type} {enc : TypeId × Value → H} {W : World} {base : Nat} {v0 : Value} {d0 : DataW H} {p0 : List MemPlace}
    (hsh : W.ShapedOpen Tryd.prog)
    (hv0 : Value.okWide Tryd.prog W .any base 5 v0) (hd0 : DataW.Trod enc Tryd.prog W 0 (fun _ => true) true 5 v0 d0 p0) :
    Calls Tryd.prog 3 #[v0] W fun e W' => e = .returned (.bool true) ∧ Below W.heap.size W W' := by
  obtain ⟨M, hM⟩ := maxLen_cell hsh
  obtain ⟨p, rfl, hp⟩ := open_int Tryd.underlying5 hv0 hd0
  have hpb := bounds_u8 hp.2.2
  obtain ⟨q, rfl⟩ : ∃ q : Nat, p = (q : Int) := ⟨p.toNat, by omega⟩
  exact topLongest_calls q M W (by omega) hM
end
end Go.Proofs.YtodimiffmmkndaaDoor
