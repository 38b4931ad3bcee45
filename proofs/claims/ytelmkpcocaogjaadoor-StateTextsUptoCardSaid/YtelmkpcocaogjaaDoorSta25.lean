/-
  gannetlaw25: StateTexts.
-/
import Derived.Test.YtelmkpcocaogjaaDoorSta21
import Derived.Test.YtelmkpcocaogjaaDoorRowg
import Derived.Test.YtelmkpcocaogjaaDoorOpst
import Derived.Test.YtelmkpcocaogjaaDoorRows
namespace Go.Proofs.YtelmkpcocaogjaaDoor
set_option linter.unusedSimpArgs false
set_option linter.unusedVariables false
open Go.RowKit Pl
set_option maxRecDepth 100000 in
set_option maxHeartbeats 8000000 in
theorem stateTexts_calls (R : Nat → Nat) (l : List UInt8) (M : Int) (w : World) (hR : ROk R) (hl : l.length ≤ 1500000)
    (hM : w.cell? ⟨0, 0, none⟩ = some (.int .i64 M)) :
    Calls Tryd.prog 3 #[.agg (stA R), .string (str l)] w fun e w' => e = .returned (.bool true) ∧ Below w.heap.size w w' := by
  obtain ⟨Q, k, _, hk, hQ⟩ := rdV_form l
  have hrd1 := fun W (h : W.cell? ⟨0, 0, none⟩ = some (.int .i64 M)) => stRead_calls l M W hl h
  have hrd2 := fun W => rRead_calls l W hl
  rw [← rdV_rpV, hQ] at hrd2
  rw [hQ] at hrd1
  have hrd0 := fun W (h : W.cell? ⟨0, 0, none⟩ = some (.int .i64 M)) => stRead_calls (tS R) M W (by rw [tS_len]; decide) h
  rw [rdV_tS R hR] at hrd0
  have htx := fun W => stText_calls R W hR
  have htx2 := fun W => rText_calls R W hR
  generalize str (tS R) = T at *
  generalize str l = L at *
  have hself := run_eql_state R
  have hselfQ := run_eql_state Q
  have hkk : ((k : Int) == (k : Int)) = true := beq_self_eq_true _
  have hTT : (T.toList == T.toList) = true := beq_self_eq_true _
  have hs1 : Blk (w.alloc (.cells (stA R) 25)) w.heap.size 25 (stA R) := Blk.new _ _ _
  have hb01 : Below w.heap.size w (w.alloc (.cells (stA R) 25)) := Bl.alloc (Below.refl _ _) _
  have hM1 := (hb01.cell (p := ⟨0, 0, none⟩) (cell_lt hM)).trans hM
  clear hM hQ hl
  go_enter Tryd.func3, Tryd.ntmps3
  go_wp2_with fail
  generalize w.alloc (.cells (stA R) 25) = w1 at *
  obtain ⟨gs, hgs⟩ : ∃ x, w.heap.size = x := ⟨_, rfl⟩
  rw [hgs] at hs1 ⊢
  clear hgs
  refine Cl.m (live25_calls M _ hM1) ?_
  intro w2 hb2
  have hs2 := hs1.below hb2 hs1.lt
  have hM2 := (hb2.cell (p := ⟨0, 0, none⟩) (cell_lt hM1)).trans hM1
  have hb02 := hb01.trans (hb2.mono hb01.size)
  clear hs1 hM1 hb01 hb2
  go_wp2_with (refine wpList_load_row rfl 25 _ rfl gs rfl _ (stA R) (0, 0) _ hs2 Tryd.underlying25 rfl (by kernel_rfl) ?_)
  refine Cl.m (htx _) ?_
  intro w3 hb3
  have hs3 := hs2.below hb3 hs2.lt
  have hM3 := (hb3.cell (p := ⟨0, 0, none⟩) (cell_lt hM2)).trans hM2
  have hb03 := hb02.trans (hb3.mono hb02.size)
  clear hs2 hM2 hb02 hb3 htx
  go_wp2_with fail
  refine Cl.m (hrd0 _ hM3) ?_
  intro w4 hb4
  have hs4 := hs3.below hb4 hs3.lt
  have hM4 := (hb4.cell (p := ⟨0, 0, none⟩) (cell_lt hM3)).trans hM3
  have hb04 := hb03.trans (hb4.mono hb03.size)
  clear hs3 hM3 hb03 hb4 hrd0
  have hz : Blk (w4.alloc (.cells zst 25)) w4.heap.size 25 zst := Blk.new _ _ _
  have hx5 : Blk (w4.alloc (.cells (stA R) 25)) w4.heap.size 25 (stA R) := Blk.new _ _ _
  have hs5 : Blk (w4.alloc (.cells (stA R) 25)) gs 25 (stA R) := hs4.alloc _
  have hba : Below w4.heap.size w4 (w4.alloc (.cells (stA R) 25)) := Bl.alloc (Below.refl _ _) _
  have hM5 := (hba.cell (p := ⟨0, 0, none⟩) (cell_lt hM4)).trans hM4
  have hb05 := hb04.trans (hba.mono hb04.size)
  clear hs4 hM4 hb04 hba
  go_wp2_with (refine wpList_store_row rfl 25 _ _ rfl w4.heap.size _ rfl rfl 25 _ hz (by kernel_rfl) rfl (by kernel_rfl) ?_; rw [setRow_new])
  clear hz
  generalize w4.alloc (.cells (stA R) 25) = w5 at *
  generalize w4.heap.size = gx at *
  refine Cl.m (hrd1 _ hM5) ?_
  intro w6 hb6
  have hs6 := hs5.below hb6 hs5.lt
  have hx6 := hx5.below hb6 hx5.lt
  have hb06 := hb05.trans (hb6.mono hb05.size)
  clear hs5 hx5 hM5 hb05 hb6 hrd1
  have hz : Blk (w6.alloc (.cells zst 25)) w6.heap.size 25 zst := Blk.new _ _ _
  have hy7 : Blk (w6.alloc (.cells (stA Q) 25)) w6.heap.size 25 (stA Q) := Blk.new _ _ _
  have hs7 : Blk (w6.alloc (.cells (stA Q) 25)) gs 25 (stA R) := hs6.alloc _
  have hx7 : Blk (w6.alloc (.cells (stA Q) 25)) gx 25 (stA R) := hx6.alloc _
  have hb07 := Bl.alloc hb06 (.cells (stA Q) 25)
  clear hs6 hx6 hb06
  go_wp2_with (refine wpList_store_row rfl 25 _ _ rfl w6.heap.size _ rfl rfl 25 _ hz (by kernel_rfl) rfl (by kernel_rfl) ?_; rw [setRow_new])
  clear hz
  generalize w6.alloc (.cells (stA Q) 25) = w7 at *
  generalize w6.heap.size = gy at *
  refine Cl.m (hrd2 _) ?_
  intro w8 hb8
  have hs8 := hs7.below hb8 hs7.lt
  have hx8 := hx7.below hb8 hx7.lt
  have hy8 := hy7.below hb8 hy7.lt
  have hb08 := hb07.trans (hb8.mono hb07.size)
  clear hs7 hx7 hy7 hb07 hb8 hrd2
  have hz : Blk (w8.alloc (.cells zst 25)) w8.heap.size 25 zst := Blk.new _ _ _
  have hw9 : Blk (w8.alloc (.cells (stA Q) 25)) w8.heap.size 25 (stA Q) := Blk.new _ _ _
  have hs9 : Blk (w8.alloc (.cells (stA Q) 25)) gs 25 (stA R) := hs8.alloc _
  have hx9 : Blk (w8.alloc (.cells (stA Q) 25)) gx 25 (stA R) := hx8.alloc _
  have hy9 : Blk (w8.alloc (.cells (stA Q) 25)) gy 25 (stA Q) := hy8.alloc _
  have hb09 := Bl.alloc hb08 (.cells (stA Q) 25)
  clear hs8 hx8 hy8 hb08
  go_wp2_with (first
    | (refine wpList_store_row rfl 25 _ _ rfl w8.heap.size _ rfl rfl 25 _ hz (by kernel_rfl) rfl (by kernel_rfl) ?_; rw [setRow_new])
    | (refine wpList_load_row rfl 25 _ rfl gs rfl _ (stA R) (0, 0) _ hs9 Tryd.underlying25 rfl (by kernel_rfl) ?_))
  clear hz
  generalize w8.alloc (.cells (stA Q) 25) = w9 at *
  generalize w8.heap.size = gw at *
  refine Cl.m (htx2 _) ?_
  intro wa hba
  have hsa := hs9.below hba hs9.lt
  have hxa := hx9.below hba hx9.lt
  have hya := hy9.below hba hy9.lt
  have hwa := hw9.below hba hw9.lt
  have hb0a := hb09.trans (hba.mono hb09.size)
  clear hs9 hx9 hy9 hw9 hb09 hba htx2
  go_wp2_with (first
    | (refine wpList_load_rowg (by rfl) 25 _ rfl gs rfl _ (stA R) (0, 0) _ hsa Tryd.underlying25 rfl (by kernel_rfl) ?_)
    | (refine wpList_load_rowg (by rfl) 25 _ rfl gx rfl _ (stA R) (0, 0) _ hxa Tryd.underlying25 rfl (by kernel_rfl) ?_)
    | (refine wpList_load_rowg (by rfl) 25 _ rfl gy rfl _ (stA Q) (0, 0) _ hya Tryd.underlying25 rfl (by kernel_rfl) ?_)
    | (refine wpList_load_rowg (by rfl) 25 _ rfl gw rfl _ (stA Q) (0, 0) _ hwa Tryd.underlying25 rfl (by kernel_rfl) ?_))
  go_ret
  exact ⟨rfl, hb0a⟩
section
open Go.ChangeShapes Go.WideShapes Go.ChangeAt
open Go.ChangeMaps (open_string)
variable {H : Type} {enc : TypeId × Value → H} {W : World} {base : Nat}
set_option maxRecDepth 100000 in
theorem walk_StateTexts {v0 v1 : Value} {d0 d1 : DataW H} {p0 p1 : List MemPlace} (hsh : W.ShapedOpen Tryd.prog) (hcd : Rows.uptoSmall H [d0, d1] = true)
    (hv0 : Value.okWide Tryd.prog W .any base 25 v0) (hd0 : DataW.Trod enc Tryd.prog W 0 (fun _ => true) true 25 v0 d0 p0) (hv1 : Value.okWide Tryd.prog W .any base 9 v1) (hd1 : DataW.Trod enc Tryd.prog W 0 (fun _ => true) true 9 v1 d1 p1) :
    Calls Tryd.prog 3 #[v0, v1] W fun e W' => e = .returned (.bool true) ∧ Below W.heap.size W W' := by
  obtain ⟨R, rfl, hR⟩ := open_state hv0 hd0
  obtain ⟨s, rfl, rfl, _, _⟩ := open_string Tryd.underlying9 hv1 hd1
  obtain ⟨M, hM⟩ := maxLen_cell hsh
  have h := of_decide_eq_true hcd
  simp only [Rows.uptoBulkAll, Rows.uptoBulk] at h
  exact stateTexts_calls R s.data.toList M W hR (by omega) hM
end
end Go.Proofs.YtelmkpcocaogjaaDoor
