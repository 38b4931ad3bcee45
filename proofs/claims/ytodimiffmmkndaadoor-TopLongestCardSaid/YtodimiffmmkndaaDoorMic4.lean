/-
  Package micro: program.
-/
import Derived.Test.YtodimiffmmkndaaDoorMic3
import Derived.Test.YtodimiffmmkndaaDoorRowl
namespace Go.Proofs.YtodimiffmmkndaaDoor
set_option linter.unusedSimpArgs false
set_option linter.unusedVariables false
set_option maxRecDepth 10000
open Go.RowKit Go.Shelf Pl
/-- The text of all blocks, as it stands in the program. -/
def blkOf (f : Func) : ByteArray := match f.body with
  | some (.seq _ (.seq (.seq _ (.cond _ (.seq (.region _ ops _) _) _)) _)) => (match ops[0]? with | some o => (match o.op with | .assign (.const (.string s)) => s | _ => .empty) | none => .empty)
  | _ => .empty
noncomputable def blk : ByteArray := blkOf Tryd.f12
theorem bapp (a b : List UInt8) : (⟨a.toArray⟩ : ByteArray) ++ ⟨b.toArray⟩ = ⟨(a ++ b).toArray⟩ := by
  apply ByteArray.ext
  rw [ByteArray.data_append]
  simp
theorem blk_app {w : World} {g : Nat} {t : TypeId} {a : List UInt8} {u : Value} (h : Blk w g t #[.string (⟨a.toArray⟩ ++ ⟨#[33]⟩), u]) : Blk w g t #[.string ⟨(a ++ [33]).toArray⟩, u] := by
  have e := bapp a [33]
  rw [← e]
  exact h
theorem jn2_le (x y : List UInt8) : (jn [x, y]).length ≤ x.length + 1 + y.length := by
  unfold jn
  cases x <;> cases y <;> simp [Lib.join, List.intercalate] <;> omega
theorem jn3_le (x y u : List UInt8) : (jn [x, y, u]).length ≤ x.length + 1 + y.length + 1 + u.length := by
  unfold jn
  cases x <;> cases y <;> cases u <;> simp [Lib.join, List.intercalate] <;> omega
theorem tms_le2 (s : List UInt8) (n k : Nat) (hs : s.length ≤ 4) (hn : n ≤ k) : (tms s n).length ≤ 5 * k := by
  unfold tms
  have := join_len (List.replicate n s) 4 (fun x hx => by rw [(List.mem_replicate.1 hx).2]; exact hs)
  rw [List.length_replicate] at this
  have h2 : (4 + 1) * n ≤ 5 * k := Nat.mul_le_mul_left _ hn
  omega
theorem stkS_le (s : ByteArray) : (stkS s).1.length ≤ 40 := by
  unfold stkS
  repeat' split
  all_goals decide
theorem lgrS_le (s : ByteArray) : (lgrS s).length ≤ 40 := by
  unfold lgrS
  repeat' split
  all_goals decide
theorem fndS_le2 (q : Nat) : (fndS q).length ≤ 20 := by
  unfold fndS
  split <;> decide
theorem plcS_le (s : ByteArray) (q : Nat) : (plcS s q).length ≤ 60 := by
  unfold plcS
  have h1 := fndS_le2 q
  have h2 := fun y => jn2_le (fndS q) y
  repeat' split
  all_goals
    refine Nat.le_trans (h2 _) ?_
    simp only [List.length_cons, List.length_nil]
    omega
theorem ownS_le (s : ByteArray) (q : Nat) (cy : Int) (hcy : q = 0 → 2 ≤ cy ∧ cy ≤ 22) : (ownS s q cy).1.length ≤ 120 := by
  unfold ownS
  split
  · refine Nat.le_trans (jn2_le _ _) ?_
    have := tms_le2 [68, 46, 46, 46] 2 2 (by decide) (by decide)
    simp only [List.length_cons, List.length_nil]
    omega
  split
  · decide
  split
  · decide
  split
  · decide
  split
  · show (if q = 5 then _ else _ : List UInt8).length ≤ 120
    split <;> decide
  split
  · rename_i h
    refine Nat.le_trans (jn2_le _ _) ?_
    have := hcy h
    have := tms_le2 [68, 46, 46, 46] (cy - 2).toNat 20 (by decide) (by omega)
    simp only [List.length_cons, List.length_nil]
    omega
  split
  · decide
  split
  · decide
  · decide
def hdM (z : Nat) : List UInt8 := jn [[70, 46, 46, 46], tms [79, 46, 46, 46] (z - 1)]
theorem hdM_le (z : Nat) (hz : z ≤ 7) : (hdM z).length ≤ 40 := by
  unfold hdM
  refine Nat.le_trans (jn2_le _ _) ?_
  have := tms_le2 [79, 46, 46, 46] (z - 1) 6 (by decide) (by omega)
  simp only [List.length_cons, List.length_nil]
  omega
/-- What a byte does, cycle by cycle, as a text. -/
noncomputable def prgS (s : ByteArray) (q z : Nat) (cy : Int) : ByteArray :=
  if q = 19 then blk
  else if (stkS s).2 then ⟨(jn [hdM z, (stkS s).1]).toArray⟩
  else if (ownS s q cy).2 then ⟨(jn [hdM z, (ownS s q cy).1]).toArray⟩
  else if q = 1 then ⟨(jn [Lib.trimSuffix (hdM z) [46] ++ [33], lgrS s]).toArray⟩
  else ⟨(jn [hdM z, plcS s q, lgrS s]).toArray⟩
theorem blk_size : blk.size = 114 := by decide +kernel
set_option maxHeartbeats 4000000 in
theorem prg_calls (s : ByteArray) (q z : Nat) (cy : Int) (w : World) (hq : q < 20) (hs : s.size ≤ 4) (hz : 1 ≤ z ∧ z ≤ 7) (hcy : q = 0 → 2 ≤ cy ∧ cy ≤ 22) :
    Calls Tryd.prog 12 #[.agg #[Value.string s, Value.int .u8 (q : Int), Value.int .i64 (z : Int), Value.int .i64 cy]] w fun e w' => e = .returned (.string (prgS s q z cy)) ∧ Below w.heap.size w w' := by
  have hX : Blk (w.alloc (.cells #[Value.string s, Value.int .u8 (q : Int), Value.int .i64 (z : Int), Value.int .i64 cy] 30)) w.heap.size 30 #[Value.string s, Value.int .u8 (q : Int), Value.int .i64 (z : Int), Value.int .i64 cy] := Blk.new _ _ _
  have hbX : Below w.heap.size w (w.alloc (.cells #[Value.string s, Value.int .u8 (q : Int), Value.int .i64 (z : Int), Value.int .i64 cy] 30)) := Bl.alloc (Below.refl _ _) _
  have hst := fun W => stk_calls s W
  have how := fun W => own_calls s q z cy W hq hcy
  have hlg := fun W => lgr_calls s W
  have hpl := fun W => plc_calls s q z cy W hq hs
  have htm := fun W => times_calls [79, 46, 46, 46] (z - 1) W (by omega) (by decide)
  have l1 := stkS_le s
  have l2 := ownS_le s q cy hcy
  have l3 := lgrS_le s
  have l4 := plcS_le s q
  have l5 := hdM_le z hz.2
  have l6 := tms_le2 [79, 46, 46, 46] (z - 1) 6 (by decide) (by omega)
  have hz1 : (z : Int) - 1 = ((z - 1 : Nat) : Int) := by omega
  by_cases h19 : q = 19
  · subst h19
    unfold prgS
    rw [if_pos rfl]
    go_enter Tryd.func12, Tryd.ntmps12
    go_wp2_with fail
    go_ret
    refine ⟨?_, by (repeat (first | exact Below.refl _ _ | assumption | refine Below.drew ?_ | refine Bl.alloc ?_ _ | refine below_drewN ?_ _ | refine Bl.chain ?_ (by assumption) (Nat.le_refl _)))⟩
    kernel_rfl
  · have n19 : ((q : Int) == 19) = false := by rw [beq_eq_false_iff_ne]; omega
    unfold prgS
    rw [if_neg h19]
    unfold hdM at *
    generalize tms [79, 46, 46, 46] (z - 1) = T at *
    have hh := fun W bk (h : Blk W bk 9 #[.string ⟨#[70, 46, 46, 46]⟩, .string ⟨T.toArray⟩]) => jn2_calls bk [70, 46, 46, 46] T W h (by decide) (by omega)
    generalize jn [[70, 46, 46, 46], T] = hM at *
    generalize z - 1 = y at *
    generalize stkS s = st at *
    obtain ⟨a, ba⟩ := st
    cases ba
    case true =>
      have l1 : a.length ≤ 40 := l1
      go_enter Tryd.func12, Tryd.ntmps12
      go_wp2_with fail
      refine Cl.p (hst _) ?_
      go_wp2_with fail
      refine Cl.m (htm _) ?_
      intro w2 hb2
      go_wp2_with fail
      refine Cl.m (hh _ w2.heap.size (Blk.new _ _ _)) ?_
      intro w3 hb3
      go_wp2_with fail
      refine Cl.m (jn2_calls w3.heap.size hM a _ (Blk.new _ _ _) (by omega) (by omega)) ?_
      intro w4 hb4
      go_wp2_with fail
      go_ret
      exact ⟨rfl, by (repeat (first | exact Below.refl _ _ | assumption | refine Below.drew ?_ | refine Bl.alloc ?_ _ | refine below_drewN ?_ _ | refine Bl.chain ?_ (by assumption) (Nat.le_refl _)))⟩
    case false =>
      generalize ownS s q cy = ow at *
      obtain ⟨d, bd⟩ := ow
      have l2 : d.length ≤ 120 := l2
      cases bd
      case true =>
        go_enter Tryd.func12, Tryd.ntmps12
        go_wp2_with fail
        refine Cl.p (hst _) ?_
        go_wp2_with (refine wpList_load_row rfl 30 _ rfl w.heap.size rfl _ #[Value.string s, Value.int .u8 (q : Int), Value.int .i64 (z : Int), Value.int .i64 cy] (0, 0) _ hX Tryd.underlying30 rfl (by kernel_rfl) ?_)
        refine Cl.m (how _) ?_
        intro w2 hb2
        have hX2 := hX.below hb2 hX.lt
        have c2 : w2.cell? ⟨w.heap.size, 2, none⟩ = some (.int .i64 (z : Int)) := hX2.cell 2
        have hb02 : Below w.heap.size w w2 := hbX.trans (hb2.mono hbX.size)
        go_wp2_with fail
        refine Cl.m (htm _) ?_
        intro w3 hb3
        have hX3 := hX2.below hb3 hX2.lt
        have hb03 : Below w.heap.size w w3 := hb02.trans (hb3.mono hb02.size)
        go_wp2_with fail
        have hA3 : Below w3.heap.size w3 (w3.alloc (.cells #[.string ⟨#[70, 46, 46, 46]⟩, .string ⟨T.toArray⟩] 9)) := Bl.alloc (Below.refl _ _) _
        refine Cl.m (hh _ w3.heap.size (Blk.new _ _ _)) ?_
        intro w4 hb4
        have hb34 : Below w3.heap.size w3 w4 := hA3.trans (hb4.mono hA3.size)
        have hX4 := hX3.below hb34 hX3.lt
        have hb04 : Below w.heap.size w w4 := hb03.trans (hb34.mono hb03.size)
        have c14 : w4.cell? ⟨w.heap.size, 1, none⟩ = some (.int .u8 (q : Int)) := hX4.cell 1
        have c04 : w4.cell? ⟨w.heap.size, 0, none⟩ = some (.string s) := hX4.cell 0
        clear hb2 hb3 hb4 hA3 hX2 hX3 hb34 hb02 hb03 c2 hX hbX
        go_wp2_with fail
        refine Cl.m (jn2_calls w4.heap.size hM d _ (Blk.new _ _ _) (by omega) (by omega)) ?_
        intro w5 hb5
        go_wp2_with fail
        go_ret
        have hA4 : Below w.heap.size w (w4.alloc (.cells #[.string ⟨hM.toArray⟩, .string ⟨d.toArray⟩] 9)) := Bl.alloc hb04 _
        exact ⟨rfl, hA4.trans (hb5.mono hA4.size)⟩
      case false =>
        clear l1 l2
        by_cases h1 : q = 1
        · rw [if_pos h1]
          have H1 : Hid ((q : Int) = 1) := by show _ = _; omega
          clear h1
          have htr : ∀ W, Calls Tryd.prog 26 #[.string ⟨hM.toArray⟩, .string ⟨#[46]⟩] W fun e w' => e = .returned (.string ⟨(Lib.trimSuffix hM [46]).toArray⟩) ∧ W = w' := fun W => (Tryd.strings_TrimSuffix ⟨hM.toArray⟩ ⟨#[46]⟩ W (by rw [show (⟨hM.toArray⟩ : ByteArray).size = hM.length by simp [ByteArray.size]]; omega)).mono fun e w' h => ⟨h.1, h.2.symm⟩
          have ltr : (Lib.trimSuffix hM [46]).length ≤ 40 := by
            unfold Lib.trimSuffix
            split
            · rw [List.length_take]; omega
            · omega
          generalize Lib.trimSuffix hM [46] = r at *
          have s1 : ¬ 9223372036854775807 < r.length + 1 := by omega
          go_enter Tryd.func12, Tryd.ntmps12
          go_wp2_with fail
          refine Cl.p (hst _) ?_
          go_wp2_with (refine wpList_load_row rfl 30 _ rfl w.heap.size rfl _ #[Value.string s, Value.int .u8 (q : Int), Value.int .i64 (z : Int), Value.int .i64 cy] (0, 0) _ hX Tryd.underlying30 rfl (by kernel_rfl) ?_)
          refine Cl.m (how _) ?_
          intro w2 hb2
          have hX2 := hX.below hb2 hX.lt
          have c2 : w2.cell? ⟨w.heap.size, 2, none⟩ = some (.int .i64 (z : Int)) := hX2.cell 2
          have hb02 : Below w.heap.size w w2 := hbX.trans (hb2.mono hbX.size)
          go_wp2_with fail
          refine Cl.m (htm _) ?_
          intro w3 hb3
          have hX3 := hX2.below hb3 hX2.lt
          have hb03 : Below w.heap.size w w3 := hb02.trans (hb3.mono hb02.size)
          go_wp2_with fail
          have hA3 : Below w3.heap.size w3 (w3.alloc (.cells #[.string ⟨#[70, 46, 46, 46]⟩, .string ⟨T.toArray⟩] 9)) := Bl.alloc (Below.refl _ _) _
          refine Cl.m (hh _ w3.heap.size (Blk.new _ _ _)) ?_
          intro w4 hb4
          have hb34 : Below w3.heap.size w3 w4 := hA3.trans (hb4.mono hA3.size)
          have hX4 := hX3.below hb34 hX3.lt
          have hb04 : Below w.heap.size w w4 := hb03.trans (hb34.mono hb03.size)
          have c14 : w4.cell? ⟨w.heap.size, 1, none⟩ = some (.int .u8 1) := by rw [← H1.out]; exact hX4.cell 1
          have c04 : w4.cell? ⟨w.heap.size, 0, none⟩ = some (.string s) := hX4.cell 0
          clear hb2 hb3 hb4 hA3 hX2 hX3 hb34 hb02 hb03 c2 hX hbX
          go_wp2_with fail
          refine wp_region_held_drew (S := fun W => W.cell? ⟨w.heap.size, 0, none⟩ = some (.string s) ∧ Below w.heap.size w W) (by kernel_rfl) ⟨(by first | exact c04.drew | exact c04 | exact Below.drew c04), (by first | exact hb04.drew | exact hb04 | exact Below.drew hb04)⟩ (fun hS0 => ?_)
          clear c04 hb04
          change wpAnyH _ _ _ _ _ 9 #[false, false, false, false, false, false, false, false, false] _ _
          generalize w4.drew = v0 at *
          refine wpAnyH_take (i := 0) (v := ?_) rfl (by kernel_rfl) (by kernel_rfl) (by kernel_rfl) (fun _ _ _ h => h) (Or.inl ⟨by rfl, ?_⟩) hS0 ?_
          rotate_left
          · (intro w hSw; (try dsimp only at hSw); go_simp; try with_reducible rfl)
          simp only [List.getElem_toArray, List.getElem_cons_zero, List.getElem_cons_succ, Act.put, List.setIfInBounds_toArray, List.set_cons_zero, List.set_cons_succ]
          refine wpAnyH_take (i := 3) (v := ?_) rfl (by kernel_rfl) (by kernel_rfl) (by kernel_rfl) (fun _ _ _ h => h) (Or.inl ⟨by rfl, ?_⟩) hS0 ?_
          rotate_left
          · (intro w hSw; (try dsimp only at hSw); go_simp; try with_reducible rfl)
          simp only [List.getElem_toArray, List.getElem_cons_zero, List.getElem_cons_succ, Act.put, List.setIfInBounds_toArray, List.set_cons_zero, List.set_cons_succ]
          refine wpAnyH_take (i := 4) (v := ?_) rfl (by kernel_rfl) (by kernel_rfl) (by kernel_rfl) (fun _ _ _ h => h) (Or.inl ⟨by rfl, ?_⟩) hS0 ?_
          rotate_left
          · (intro w hSw; (try dsimp only at hSw); go_simp; try with_reducible rfl)
          simp only [List.getElem_toArray, List.getElem_cons_zero, List.getElem_cons_succ, Act.put, List.setIfInBounds_toArray, List.set_cons_zero, List.set_cons_succ]
          refine wpAnyH_ready (rs := [1]) (by kernel_rfl) (by simp) ?_
          refine AllReadyH.cons rfl (fun K hK => ?_) AllReadyH.nil
          go_simp
          refine (htr _).mono ?_
          rintro e w' ⟨rfl, rfl⟩
          (try go_simp)
          refine hK.out _ _ hS0 (fun _ => ?_)
          clear hK K
          simp only [List.getElem_toArray, List.getElem_cons_zero, List.getElem_cons_succ, Act.put, List.setIfInBounds_toArray, List.set_cons_zero, List.set_cons_succ]
          refine wpAnyH_take (i := 2) (v := ?_) rfl (by kernel_rfl) (by kernel_rfl) (by kernel_rfl) (fun _ _ _ h => h) (Or.inl ⟨by rfl, ?_⟩) hS0 ?_
          rotate_left
          · (intro w hSw; (try dsimp only at hSw); go_simp; try with_reducible rfl)
          simp only [List.getElem_toArray, List.getElem_cons_zero, List.getElem_cons_succ, Act.put, List.setIfInBounds_toArray, List.set_cons_zero, List.set_cons_succ]
          refine wpAnyH_ready (rs := [5]) (by kernel_rfl) (by simp) ?_
          refine AllReadyH.cons rfl (fun K hK => ?_) AllReadyH.nil
          go_simp
          refine (hlg _).mono ?_
          rintro e w' ⟨rfl, rfl⟩
          (try go_simp)
          refine hK.out _ _ hS0 (fun _ => ?_)
          clear hK K
          simp only [List.getElem_toArray, List.getElem_cons_zero, List.getElem_cons_succ, Act.put, List.setIfInBounds_toArray, List.set_cons_zero, List.set_cons_succ]
          refine wpAnyH_ready (rs := [6]) (by kernel_rfl) (by simp) ?_
          refine AllReadyH.cons rfl (fun K hK => ?_) AllReadyH.nil
          go_simp
          have hb1 : Below v0.heap.size v0 (v0.alloc (.cells #[.string (⟨r.toArray⟩ ++ ⟨#[33]⟩), .string ⟨(lgrS s).toArray⟩] 9)) := Bl.alloc (Below.refl _ _) _
          refine hK.out _ _ ⟨(by first | exact hS0.1.below hb1 hS0.1.lt | exact hS0.1.trans (hb1.mono hS0.1.size) | exact hS0.1.trans (hb1.mono (by have := hS0.1.size; omega)) | exact (hb1.cell (cell_lt hS0.1)).trans hS0.1 | exact hS0.1.below hb1 (Nat.le_refl _) | exact hS0.1.low hb1 | exact hS0.1.below hb1 | exact hS0.1.trans (Only.of hb1)), (by first | exact hS0.2.below hb1 hS0.2.lt | exact hS0.2.trans (hb1.mono hS0.2.size) | exact hS0.2.trans (hb1.mono (by have := hS0.2.size; omega)) | exact (hb1.cell (cell_lt hS0.2)).trans hS0.2 | exact hS0.2.below hb1 (Nat.le_refl _) | exact hS0.2.low hb1 | exact hS0.2.below hb1 | exact hS0.2.trans (Only.of hb1))⟩ (fun hS1 => ?_)
          clear hK K
          have hgg_1 : Blk (v0.alloc (.cells #[.string (⟨r.toArray⟩ ++ ⟨#[33]⟩), .string ⟨(lgrS s).toArray⟩] 9)) v0.heap.size 9 #[.string (⟨r.toArray⟩ ++ ⟨#[33]⟩), .string ⟨(lgrS s).toArray⟩] := Blk.new _ _ _
          clear hb1 hS0
          generalize v0.alloc (.cells #[.string (⟨r.toArray⟩ ++ ⟨#[33]⟩), .string ⟨(lgrS s).toArray⟩] 9) = v1 at *
          generalize v0.heap.size = gg at *
          simp only [List.getElem_toArray, List.getElem_cons_zero, List.getElem_cons_succ, Act.put, List.setIfInBounds_toArray, List.set_cons_zero, List.set_cons_succ]
          refine wpAnyH_ready (rs := [7]) (by kernel_rfl) (by simp) ?_
          refine AllReadyH.cons rfl (fun K hK => ?_) AllReadyH.nil
          go_simp
          refine (jn2_calls gg (r ++ [33]) (lgrS s) _ (blk_app hgg_1) (by simp only [List.length_append, List.length_cons, List.length_nil]; omega) (by omega)).mono ?_
          rintro e v2 ⟨rfl, hb2⟩
          (try go_simp)
          refine hK.out _ _ ⟨(by first | exact hS1.1.below hb2 hS1.1.lt | exact hS1.1.trans (hb2.mono hS1.1.size) | exact hS1.1.trans (hb2.mono (by have := hS1.1.size; omega)) | exact (hb2.cell (cell_lt hS1.1)).trans hS1.1 | exact hS1.1.below hb2 (Nat.le_refl _) | exact hS1.1.low hb2 | exact hS1.1.below hb2 | exact hS1.1.trans (Only.of hb2)), (by first | exact hS1.2.below hb2 hS1.2.lt | exact hS1.2.trans (hb2.mono hS1.2.size) | exact hS1.2.trans (hb2.mono (by have := hS1.2.size; omega)) | exact (hb2.cell (cell_lt hS1.2)).trans hS1.2 | exact hS1.2.below hb2 (Nat.le_refl _) | exact hS1.2.low hb2 | exact hS1.2.below hb2 | exact hS1.2.trans (Only.of hb2))⟩ (fun hS2 => ?_)
          clear hK K
          have hgg_2 := hgg_1.below hb2 hgg_1.lt
          clear hb2 hS1
          simp only [List.getElem_toArray, List.getElem_cons_zero, List.getElem_cons_succ, Act.put, List.setIfInBounds_toArray, List.set_cons_zero, List.set_cons_succ]
          refine wpAnyH_take (i := 8) (v := ?_) rfl (by kernel_rfl) (by kernel_rfl) (by kernel_rfl) (fun _ _ _ h => h) (Or.inl ⟨by rfl, ?_⟩) hS2 ?_
          rotate_left
          · (intro w hSw; (try dsimp only at hSw); go_simp; try with_reducible rfl)
          simp only [List.getElem_toArray, List.getElem_cons_zero, List.getElem_cons_succ, Act.put, List.setIfInBounds_toArray, List.set_cons_zero, List.set_cons_succ]
          refine wpAnyH_done (by kernel_rfl) ?_ _
          have c04 := hS2.1
          have hb04 := hS2.2
          clear hS2
          have hgg := hgg_2
          go_wp2_with fail
          go_ret
          exact ⟨rfl, hb04⟩
        · have n1 : ((q : Int) == 1) = false := by rw [beq_eq_false_iff_ne]; omega
          rw [if_neg h1]
          go_enter Tryd.func12, Tryd.ntmps12
          go_wp2_with fail
          refine Cl.p (hst _) ?_
          go_wp2_with (refine wpList_load_row rfl 30 _ rfl w.heap.size rfl _ #[Value.string s, Value.int .u8 (q : Int), Value.int .i64 (z : Int), Value.int .i64 cy] (0, 0) _ hX Tryd.underlying30 rfl (by kernel_rfl) ?_)
          refine Cl.m (how _) ?_
          intro w2 hb2
          have hX2 := hX.below hb2 hX.lt
          have c2 : w2.cell? ⟨w.heap.size, 2, none⟩ = some (.int .i64 (z : Int)) := hX2.cell 2
          have hb02 : Below w.heap.size w w2 := hbX.trans (hb2.mono hbX.size)
          go_wp2_with fail
          refine Cl.m (htm _) ?_
          intro w3 hb3
          have hX3 := hX2.below hb3 hX2.lt
          have hb03 : Below w.heap.size w w3 := hb02.trans (hb3.mono hb02.size)
          go_wp2_with fail
          have hA3 : Below w3.heap.size w3 (w3.alloc (.cells #[.string ⟨#[70, 46, 46, 46]⟩, .string ⟨T.toArray⟩] 9)) := Bl.alloc (Below.refl _ _) _
          refine Cl.m (hh _ w3.heap.size (Blk.new _ _ _)) ?_
          intro w4 hb4
          have hb34 : Below w3.heap.size w3 w4 := hA3.trans (hb4.mono hA3.size)
          have hX4 := hX3.below hb34 hX3.lt
          have hb04 : Below w.heap.size w w4 := hb03.trans (hb34.mono hb03.size)
          have c14 : w4.cell? ⟨w.heap.size, 1, none⟩ = some (.int .u8 (q : Int)) := hX4.cell 1
          have c04 : w4.cell? ⟨w.heap.size, 0, none⟩ = some (.string s) := hX4.cell 0
          clear hb2 hb3 hb4 hA3 hX2 hX3 hb34 hb02 hb03 c2 hX hbX
          go_wp2_with fail
          refine wp_region_held_drew (S := fun W => Blk W w.heap.size 30 #[Value.string s, Value.int .u8 (q : Int), Value.int .i64 (z : Int), Value.int .i64 cy] ∧ W.cell? ⟨w.heap.size, 0, none⟩ = some (.string s) ∧ Below w.heap.size w W) (by kernel_rfl) ⟨(by first | exact hX4.drew | exact hX4 | exact Below.drew hX4), (by first | exact c04.drew | exact c04 | exact Below.drew c04), (by first | exact hb04.drew | exact hb04 | exact Below.drew hb04)⟩ (fun hS0 => ?_)
          clear hX4 c04 hb04
          change wpAnyH _ _ _ _ _ 9 #[false, false, false, false, false, false, false, false, false] _ _
          generalize w4.drew = v0 at *
          refine wpAnyH_take (i := 0) (v := ?_) rfl (by kernel_rfl) (by kernel_rfl) (by kernel_rfl) (fun _ _ _ h => h) (Or.inl ⟨by rfl, ?_⟩) hS0 ?_
          rotate_left
          · (intro w hSw; (try dsimp only at hSw); go_simp; try with_reducible rfl)
          simp only [List.getElem_toArray, List.getElem_cons_zero, List.getElem_cons_succ, Act.put, List.setIfInBounds_toArray, List.set_cons_zero, List.set_cons_succ]
          refine wpAnyH_take (i := 1) (v := .agg #[Value.string s, Value.int .u8 (q : Int), Value.int .i64 (z : Int), Value.int .i64 cy]) rfl (by kernel_rfl) (by kernel_rfl) (by kernel_rfl) (fun _ _ _ h => h) (YieldsIf.row_w (by rfl) 30 _ rfl w.heap.size rfl _ _ _ (fun _ h => h.1) Tryd.underlying30 rfl (by kernel_rfl)) hS0 ?_
          simp only [List.getElem_toArray, List.getElem_cons_zero, List.getElem_cons_succ, Act.put, List.setIfInBounds_toArray, List.set_cons_zero, List.set_cons_succ]
          refine wpAnyH_take (i := 3) (v := ?_) rfl (by kernel_rfl) (by kernel_rfl) (by kernel_rfl) (fun _ _ _ h => h) (Or.inl ⟨by rfl, ?_⟩) hS0 ?_
          rotate_left
          · (intro w hSw; (try dsimp only at hSw); go_simp; try with_reducible rfl)
          simp only [List.getElem_toArray, List.getElem_cons_zero, List.getElem_cons_succ, Act.put, List.setIfInBounds_toArray, List.set_cons_zero, List.set_cons_succ]
          refine wpAnyH_take (i := 4) (v := ?_) rfl (by kernel_rfl) (by kernel_rfl) (by kernel_rfl) (fun _ _ _ h => h) (Or.inl ⟨by rfl, ?_⟩) hS0 ?_
          rotate_left
          · (intro w hSw; (try dsimp only at hSw); go_simp; try with_reducible rfl)
          simp only [List.getElem_toArray, List.getElem_cons_zero, List.getElem_cons_succ, Act.put, List.setIfInBounds_toArray, List.set_cons_zero, List.set_cons_succ]
          refine wpAnyH_ready (rs := [2]) (by kernel_rfl) (by simp) ?_
          refine AllReadyH.cons rfl (fun K hK => ?_) AllReadyH.nil
          go_simp
          refine (hpl _).mono ?_
          rintro e v1 ⟨rfl, hb1⟩
          (try go_simp)
          refine hK.out _ _ ⟨(by first | exact hS0.1.below hb1 hS0.1.lt | exact hS0.1.trans (hb1.mono hS0.1.size) | exact hS0.1.trans (hb1.mono (by have := hS0.1.size; omega)) | exact (hb1.cell (cell_lt hS0.1)).trans hS0.1 | exact hS0.1.below hb1 (Nat.le_refl _) | exact hS0.1.low hb1 | exact hS0.1.below hb1 | exact hS0.1.trans (Only.of hb1)), (by first | exact hS0.2.1.below hb1 hS0.2.1.lt | exact hS0.2.1.trans (hb1.mono hS0.2.1.size) | exact hS0.2.1.trans (hb1.mono (by have := hS0.2.1.size; omega)) | exact (hb1.cell (cell_lt hS0.2.1)).trans hS0.2.1 | exact hS0.2.1.below hb1 (Nat.le_refl _) | exact hS0.2.1.low hb1 | exact hS0.2.1.below hb1 | exact hS0.2.1.trans (Only.of hb1)), (by first | exact hS0.2.2.below hb1 hS0.2.2.lt | exact hS0.2.2.trans (hb1.mono hS0.2.2.size) | exact hS0.2.2.trans (hb1.mono (by have := hS0.2.2.size; omega)) | exact (hb1.cell (cell_lt hS0.2.2)).trans hS0.2.2 | exact hS0.2.2.below hb1 (Nat.le_refl _) | exact hS0.2.2.low hb1 | exact hS0.2.2.below hb1 | exact hS0.2.2.trans (Only.of hb1))⟩ (fun hS1 => ?_)
          clear hK K
          clear hb1 hS0
          simp only [List.getElem_toArray, List.getElem_cons_zero, List.getElem_cons_succ, Act.put, List.setIfInBounds_toArray, List.set_cons_zero, List.set_cons_succ]
          refine wpAnyH_ready (rs := [5]) (by kernel_rfl) (by simp) ?_
          refine AllReadyH.cons rfl (fun K hK => ?_) AllReadyH.nil
          go_simp
          refine (hlg _).mono ?_
          rintro e w' ⟨rfl, rfl⟩
          (try go_simp)
          refine hK.out _ _ hS1 (fun _ => ?_)
          clear hK K
          simp only [List.getElem_toArray, List.getElem_cons_zero, List.getElem_cons_succ, Act.put, List.setIfInBounds_toArray, List.set_cons_zero, List.set_cons_succ]
          refine wpAnyH_ready (rs := [6]) (by kernel_rfl) (by simp) ?_
          refine AllReadyH.cons rfl (fun K hK => ?_) AllReadyH.nil
          go_simp
          have hb2 : Below v1.heap.size v1 (v1.alloc (.cells #[.string ⟨hM.toArray⟩, .string ⟨(plcS s q).toArray⟩, .string ⟨(lgrS s).toArray⟩] 9)) := Bl.alloc (Below.refl _ _) _
          refine hK.out _ _ ⟨(by first | exact hS1.1.below hb2 hS1.1.lt | exact hS1.1.trans (hb2.mono hS1.1.size) | exact hS1.1.trans (hb2.mono (by have := hS1.1.size; omega)) | exact (hb2.cell (cell_lt hS1.1)).trans hS1.1 | exact hS1.1.below hb2 (Nat.le_refl _) | exact hS1.1.low hb2 | exact hS1.1.below hb2 | exact hS1.1.trans (Only.of hb2)), (by first | exact hS1.2.1.below hb2 hS1.2.1.lt | exact hS1.2.1.trans (hb2.mono hS1.2.1.size) | exact hS1.2.1.trans (hb2.mono (by have := hS1.2.1.size; omega)) | exact (hb2.cell (cell_lt hS1.2.1)).trans hS1.2.1 | exact hS1.2.1.below hb2 (Nat.le_refl _) | exact hS1.2.1.low hb2 | exact hS1.2.1.below hb2 | exact hS1.2.1.trans (Only.of hb2)), (by first | exact hS1.2.2.below hb2 hS1.2.2.lt | exact hS1.2.2.trans (hb2.mono hS1.2.2.size) | exact hS1.2.2.trans (hb2.mono (by have := hS1.2.2.size; omega)) | exact (hb2.cell (cell_lt hS1.2.2)).trans hS1.2.2 | exact hS1.2.2.below hb2 (Nat.le_refl _) | exact hS1.2.2.low hb2 | exact hS1.2.2.below hb2 | exact hS1.2.2.trans (Only.of hb2))⟩ (fun hS2 => ?_)
          clear hK K
          have hgg_2 : Blk (v1.alloc (.cells #[.string ⟨hM.toArray⟩, .string ⟨(plcS s q).toArray⟩, .string ⟨(lgrS s).toArray⟩] 9)) v1.heap.size 9 #[.string ⟨hM.toArray⟩, .string ⟨(plcS s q).toArray⟩, .string ⟨(lgrS s).toArray⟩] := Blk.new _ _ _
          have hlt_hX4_hgg := hS1.1.lt
          clear hb2 hS1
          generalize v1.alloc (.cells #[.string ⟨hM.toArray⟩, .string ⟨(plcS s q).toArray⟩, .string ⟨(lgrS s).toArray⟩] 9) = v2 at *
          generalize v1.heap.size = gg at *
          simp only [List.getElem_toArray, List.getElem_cons_zero, List.getElem_cons_succ, Act.put, List.setIfInBounds_toArray, List.set_cons_zero, List.set_cons_succ]
          refine wpAnyH_ready (rs := [7]) (by kernel_rfl) (by simp) ?_
          refine AllReadyH.cons rfl (fun K hK => ?_) AllReadyH.nil
          go_simp
          refine (jn3_calls gg hM (plcS s q) (lgrS s) _ hgg_2 (by omega) (by omega) (by omega)).mono ?_
          rintro e v3 ⟨rfl, hb3⟩
          (try go_simp)
          refine hK.out _ _ ⟨(by first | exact hS2.1.below hb3 hS2.1.lt | exact hS2.1.trans (hb3.mono hS2.1.size) | exact hS2.1.trans (hb3.mono (by have := hS2.1.size; omega)) | exact (hb3.cell (cell_lt hS2.1)).trans hS2.1 | exact hS2.1.below hb3 (Nat.le_refl _) | exact hS2.1.low hb3 | exact hS2.1.below hb3 | exact hS2.1.trans (Only.of hb3)), (by first | exact hS2.2.1.below hb3 hS2.2.1.lt | exact hS2.2.1.trans (hb3.mono hS2.2.1.size) | exact hS2.2.1.trans (hb3.mono (by have := hS2.2.1.size; omega)) | exact (hb3.cell (cell_lt hS2.2.1)).trans hS2.2.1 | exact hS2.2.1.below hb3 (Nat.le_refl _) | exact hS2.2.1.low hb3 | exact hS2.2.1.below hb3 | exact hS2.2.1.trans (Only.of hb3)), (by first | exact hS2.2.2.below hb3 hS2.2.2.lt | exact hS2.2.2.trans (hb3.mono hS2.2.2.size) | exact hS2.2.2.trans (hb3.mono (by have := hS2.2.2.size; omega)) | exact (hb3.cell (cell_lt hS2.2.2)).trans hS2.2.2 | exact hS2.2.2.below hb3 (Nat.le_refl _) | exact hS2.2.2.low hb3 | exact hS2.2.2.below hb3 | exact hS2.2.2.trans (Only.of hb3))⟩ (fun hS3 => ?_)
          clear hK K
          have hgg_3 := hgg_2.below hb3 hgg_2.lt
          clear hb3 hS2
          simp only [List.getElem_toArray, List.getElem_cons_zero, List.getElem_cons_succ, Act.put, List.setIfInBounds_toArray, List.set_cons_zero, List.set_cons_succ]
          refine wpAnyH_take (i := 8) (v := ?_) rfl (by kernel_rfl) (by kernel_rfl) (by kernel_rfl) (fun _ _ _ h => h) (Or.inl ⟨by rfl, ?_⟩) hS3 ?_
          rotate_left
          · (intro w hSw; (try dsimp only at hSw); go_simp; try with_reducible rfl)
          simp only [List.getElem_toArray, List.getElem_cons_zero, List.getElem_cons_succ, Act.put, List.setIfInBounds_toArray, List.set_cons_zero, List.set_cons_succ]
          refine wpAnyH_done (by kernel_rfl) ?_ _
          have hX4 := hS3.1
          have c04 := hS3.2.1
          have hb04 := hS3.2.2
          clear hS3
          have hgg := hgg_3
          go_wp2_with fail
          go_ret
          exact ⟨rfl, hb04⟩
end Go.Proofs.YtodimiffmmkndaaDoor
