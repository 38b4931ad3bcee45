/-
  The texts Sc52 of the proofs about scripts, as one file (they are merged by a program).
-/
import Derived.Test.YtdhdknjefjolpaaDoorA20
section
/-
  gannetlaw33: ScriptWords.
-/
namespace Go.Proofs.YtdhdknjefjolpaaDoor
set_option linter.unusedSimpArgs false
set_option linter.unusedVariables false
set_option maxRecDepth 10000
open Go.RowKit Go.Shelf Pl
set_option maxRecDepth 100000 in
set_option maxHeartbeats 8000000 in
theorem words_law (l : List UInt8) (S : ByteArray) (M : Int) (w : World) (hl : l.length ≤ maxLen) (hM : w.cell? ⟨0, 0, none⟩ = some (.int .i64 M)) :
    Calls Tryd.prog 6 #[.string ⟨l.toArray⟩, .string S] w fun e w' => e = .returned (.bool true) ∧ Below w.heap.size w w' := by
  have hlv := live33_calls M w hM
  have hMl : (⟨0, 0, none⟩ : Addr).block < w.heap.size := cell_lt hM
  have hls := strS l
  unfold maxLen at hl
  by_cases h1000 : 1000 < l.length
  · have i1 : (1000 : Int) < (l.length : Int) := by omega
    generalize l.length = n at *
    go_enter Tryd.func6, Tryd.ntmps6
    go_wp2_with fail
    with_reducible refine hlv.mono ?_
    clear hlv
    rintro e w1 ⟨rfl, hb1⟩
    go_wp2_with fail
    go_ret
    exact ⟨rfl, hb1⟩
  · have i1 : (decide ((1000 : Int) < (l.length : Int))) = false := decide_eq_false (by omega)
    have i2 : (decide (1000 < l.length)) = false := decide_eq_false h1000
    have hli := fun W (h : W.cell? ⟨0, 0, none⟩ = some (.int .i64 M)) => line_calls l M W (by omega) h
    have hwo := fun W => words_calls l W (by omega)
    have hn1 := fun W => num_calls S W
    have hn2 := fun W => rnum_calls S W
    generalize numV S.data.toList = R at *
    generalize lnW l = L at *
    go_enter Tryd.func6, Tryd.ntmps6
    go_wp2_with fail
    with_reducible refine hlv.mono ?_
    clear hlv
    rintro e w1 ⟨rfl, hb1⟩
    have hM1 := (hb1.cell (p := ⟨0, 0, none⟩) hMl).trans hM
    go_wp2_with fail
    with_reducible refine (hli _ hM1).mono ?_
    clear hli hM1
    rintro e w2 ⟨v, rfl, ho, hb2⟩
    obtain ⟨a, c, rfl, hw⟩ := WsAt.of_row ho
    go_wp2_with fail
    with_reducible refine (hwo _).mono ?_
    clear hwo
    rintro e w3 ⟨v, rfl, ho2, hb3⟩
    obtain ⟨a2, c2, rfl, hw2⟩ := WsAt.of_row ho2
    have hw := hw.low hb3
    have hb03 := hb1.trans ((hb2.trans (hb3.mono hb2.size)).mono hb1.size)
    have HW := hide hw
    have HW2 := hide hw2
    have hne : ((L.length : Int) != (L.length : Int)) = false := bne_self_eq_false _
    have hLm : L.length ≤ 9223372036854775807 := by
      rcases Nat.eq_zero_or_pos L.length with h | h
      · omega
      · obtain ⟨_, _, _, _, _, _, hnc, hcm, _⟩ := ho.2.resolve_left (fun h2 => by omega)
        rw [show (9223372036854775807 : Nat) = maxLen from rfl]
        omega
    clear ho ho2 hw hw2 hb1 hb2 hb3
    go_wp2_with fail
    go_loopw [7] (fun v7 wr => ∃ k : Nat, k ≤ L.length ∧ v7 = .int .i64 (k : Int) ∧ Hid (Below w3.heap.size w3 wr)) (fun v7 _ => L.length - (intOf v7).toNat)
    case atStart => exact ⟨0, by omega, rfl, Below.refl _ _⟩
    case round =>
      obtain ⟨k, hk, rfl, HB⟩ := hrel
      rcases Nat.lt_or_ge k L.length with hlt | hge
      · obtain ⟨x, hx⟩ : ∃ x, L[k]? = some x := ⟨_, List.getElem?_eq_getElem hlt⟩
        obtain ⟨b, off, rfl, _, q1⟩ := HW.out k x hx
        obtain ⟨b2, off2, rfl, _, q2⟩ := HW2.out k x hx
        have hbd := HB.out
        replace q1 : wr.cell? ⟨b, off + k, none⟩ = some (.string ⟨x.toArray⟩) := (hbd.cell (cell_lt q1)).trans q1
        replace q2 : wr.cell? ⟨b2, off2 + k, none⟩ = some (.string ⟨x.toArray⟩) := (hbd.cell (cell_lt q2)).trans q2
        have k1 : (k : Int) < (L.length : Int) := by omega
        clear hx
        go_wp2_with fail
        refine wp_region_held_drew (S := fun W => W.cell? ⟨b, off + k, none⟩ = some (.string ⟨x.toArray⟩) ∧ W.cell? ⟨b2, off2 + k, none⟩ = some (.string ⟨x.toArray⟩) ∧ Below w3.heap.size w3 W) (by kernel_rfl) ⟨(by first | exact q1.drew | exact q1 | exact Below.drew q1), (by first | exact q2.drew | exact q2 | exact Below.drew q2), (by first | exact hbd.drew | exact hbd | exact Below.drew hbd)⟩ (fun hS0 => ?_)
        clear q1 q2 hbd
        change wpAnyH _ _ _ _ _ 9 #[false, false, false, false, false, false, false, false, false] _ _
        generalize wr.drew = v0 at *
        refine wpAnyH_take (i := 0) (v := ?_) rfl (by kernel_rfl) (by kernel_rfl) (by kernel_rfl) (fun _ _ _ h => h) (Or.inl ⟨by rfl, ?_⟩) hS0 ?_
        rotate_left
        · (intro w hSw; (try dsimp only at hSw); go_simp; try with_reducible rfl)
        simp only [List.getElem_toArray, List.getElem_cons_zero, List.getElem_cons_succ, Act.put, List.setIfInBounds_toArray, List.set_cons_zero, List.set_cons_succ]
        refine wpAnyH_take (i := 1) (v := ?_) rfl (by kernel_rfl) (by kernel_rfl) (by kernel_rfl) (fun _ _ _ h => h) (Or.inl ⟨by rfl, ?_⟩) hS0 ?_
        rotate_left
        · (intro w hSw; (try dsimp only at hSw); go_simp; try with_reducible rfl)
        simp only [List.getElem_toArray, List.getElem_cons_zero, List.getElem_cons_succ, Act.put, List.setIfInBounds_toArray, List.set_cons_zero, List.set_cons_succ]
        refine wpAnyH_take (i := 2) (v := ?_) rfl (by kernel_rfl) (by kernel_rfl) (by kernel_rfl) (fun _ _ _ h => h) (Or.inl ⟨by rfl, ?_⟩) hS0 ?_
        rotate_left
        · (intro w hSw; (try dsimp only at hSw); go_simp; try with_reducible rfl)
        simp only [List.getElem_toArray, List.getElem_cons_zero, List.getElem_cons_succ, Act.put, List.setIfInBounds_toArray, List.set_cons_zero, List.set_cons_succ]
        refine wpAnyH_take (i := 3) (v := ?_) rfl (by kernel_rfl) (by kernel_rfl) (by kernel_rfl) (fun _ _ _ h => h) (Or.inl ⟨by rfl, ?_⟩) hS0 ?_
        rotate_left
        · (intro w hSw; (try dsimp only at hSw); go_simp; try with_reducible rfl)
        simp only [List.getElem_toArray, List.getElem_cons_zero, List.getElem_cons_succ, Act.put, List.setIfInBounds_toArray, List.set_cons_zero, List.set_cons_succ]
        refine wpAnyH_take (i := 4) (v := ?_) rfl (by kernel_rfl) (by kernel_rfl) (by kernel_rfl) (fun _ _ _ h => h) (Or.inl ⟨by rfl, ?_⟩) hS0 ?_
        rotate_left
        · (intro w hSw; (try dsimp only at hSw); go_simp; try with_reducible rfl)
        simp only [List.getElem_toArray, List.getElem_cons_zero, List.getElem_cons_succ, Act.put, List.setIfInBounds_toArray, List.set_cons_zero, List.set_cons_succ]
        refine wpAnyH_take (i := 5) (v := ?_) rfl (by kernel_rfl) (by kernel_rfl) (by kernel_rfl) (fun _ _ _ h => h) (Or.inl ⟨by rfl, ?_⟩) hS0 ?_
        rotate_left
        · (intro w hSw; (try dsimp only at hSw); go_simp; try with_reducible rfl)
        simp only [List.getElem_toArray, List.getElem_cons_zero, List.getElem_cons_succ, Act.put, List.setIfInBounds_toArray, List.set_cons_zero, List.set_cons_succ]
        refine wpAnyH_take (i := 6) (v := ?_) rfl (by kernel_rfl) (by kernel_rfl) (by kernel_rfl) (fun _ _ _ h => h) (Or.inl ⟨by rfl, ?_⟩) hS0 ?_
        rotate_left
        · (intro w hSw; (try dsimp only at hSw); go_simp; try with_reducible rfl)
        simp only [List.getElem_toArray, List.getElem_cons_zero, List.getElem_cons_succ, Act.put, List.setIfInBounds_toArray, List.set_cons_zero, List.set_cons_succ]
        refine wpAnyH_take (i := 7) (v := ?_) rfl (by kernel_rfl) (by kernel_rfl) (by kernel_rfl) (fun _ _ _ h => h) (Or.inl ⟨by rfl, ?_⟩) hS0 ?_
        rotate_left
        · (intro w hSw; (try dsimp only at hSw); go_simp; try with_reducible rfl)
        simp only [List.getElem_toArray, List.getElem_cons_zero, List.getElem_cons_succ, Act.put, List.setIfInBounds_toArray, List.set_cons_zero, List.set_cons_succ]
        refine wpAnyH_take (i := 8) (v := ?_) rfl (by kernel_rfl) (by kernel_rfl) (by kernel_rfl) (fun _ _ _ h => h) (Or.inl ⟨by rfl, ?_⟩) hS0 ?_
        rotate_left
        · (intro w hSw; (try dsimp only at hSw); go_simp; try with_reducible rfl)
        simp only [List.getElem_toArray, List.getElem_cons_zero, List.getElem_cons_succ, Act.put, List.setIfInBounds_toArray, List.set_cons_zero, List.set_cons_succ]
        refine wpAnyH_done (by kernel_rfl) ?_ _
        have q1 := hS0.1
        have q2 := hS0.2.1
        have hbd := hS0.2.2
        clear hS0
        go_wp2_with fail
        refine ⟨⟨k + 1, by omega, by go_num, hbd⟩, ?_⟩
        simp [intOf]; omega
      · obtain rfl : k = L.length := by omega
        have k2 : (decide ((L.length : Int) < (L.length : Int))) = false := decide_eq_false (by omega)
        have e1 : ((R.1 : Int) == (R.1 : Int)) = true := beq_self_eq_true _
        have e2 : ((R.2 : Int) == (R.2 : Int)) = true := beq_self_eq_true _
        go_wp2_with fail
        with_reducible refine (hn1 _).mono ?_
        rintro e w4 ⟨rfl, hb4⟩
        go_wp2_with fail
        with_reducible refine (hn2 _).mono ?_
        rintro e w5 ⟨rfl, hb5⟩
        have hb3w := hb03.trans (HB.out.mono hb03.size)
        have hb05 := hb3w.trans ((hb4.trans (hb5.mono hb4.size)).mono hb3w.size)
        clear hb4 hb5 hb03 hb3w
        go_wp2_with fail
        go_ret
        exact ⟨rfl, hb05⟩
section
open Go.ChangeShapes Go.WideShapes Go.ChangeAt
theorem maxLen_cell {W : World} (h : W.ShapedOpen Tryd.prog) : ∃ M, W.cell? ⟨0, 0, none⟩ = some (.int .i64 M) :=
  Go.Proofs.cell_of_shapedOpen_int (zero := #[.int .i64 0]) (t := 3) h (of_decide_eq_true (by kernel_rfl)) (by kernel_rfl) rfl (by kernel_rfl) (by kernel_rfl) Tryd.underlying3
theorem walk_ScriptWords {H : Type} {enc : TypeId × Value → H} {W : World} {base : Nat} {v0 v1 : Value} {d0 d1 : DataW H} {p0 p1 : List MemPlace}
    (hsh : W.ShapedOpen Tryd.prog) (hv0 : Value.okWide Tryd.prog W .any base 9 v0) (hd0 : DataW.Trod enc Tryd.prog W 0 (fun _ => true) true 9 v0 d0 p0) (hv1 : Value.okWide Tryd.prog W .any base 9 v1) (hd1 : DataW.Trod enc Tryd.prog W 0 (fun _ => true) true 9 v1 d1 p1) :
    Calls Tryd.prog 6 #[v0, v1] W fun e W' => e = .returned (.bool true) ∧ Below W.heap.size W W' := by
  obtain ⟨M, hM⟩ := maxLen_cell hsh
  obtain ⟨s0, rfl, h0⟩ := open_str Tryd.underlying9 hv0 hd0
  obtain ⟨s1, rfl, h1⟩ := open_str Tryd.underlying9 hv1 hd1
  exact words_law s0.data.toList s1 M W (by rw [ba_len]; exact h0) hM
end
end Go.Proofs.YtdhdknjefjolpaaDoor
end
