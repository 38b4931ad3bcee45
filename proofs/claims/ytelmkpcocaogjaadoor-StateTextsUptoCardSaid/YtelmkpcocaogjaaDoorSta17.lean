/-
  Package state: Read.
-/
import Derived.Test.YtelmkpcocaogjaaDoorSta16
import Derived.Test.YtelmkpcocaogjaaDoorSta14
namespace Go.Proofs.YtelmkpcocaogjaaDoor
set_option linter.unusedSimpArgs false
set_option linter.unusedVariables false
open Go.RowKit Pl

theorem errOf_eq (r : Option Nat) : errOf r = .tuple #[.int .u8 ((r.getD 0 : Nat) : Int), .int .i64 (match r with | some _ => 0 | none => 3)] := by cases r <;> rfl
theorem stPages'_calls (part : List UInt8) (M : Int) (w : World) (hp : part.length ≤ 1500000) (hM : w.cell? ⟨0, 0, none⟩ = some (.int .i64 M)) :
    Calls Tryd.prog 31 #[.string (str part)] w fun e w' => e = .returned (.agg #[.int .u8 (bankP part 0 : Int), .int .u8 (bankP part 1 : Int), .int .u8 (bankP part 2 : Int), .int .u8 (bankP part 3 : Int), .int .u8 (bankP part 4 : Int), .int .u8 (bankP part 5 : Int), .int .u8 (bankP part 6 : Int), .int .u8 (bankP part 7 : Int)]) ∧ Below w.heap.size w w' :=
  stPages_calls part M w hp hM
/-- The state, its P not yet. -/
def rdA (V : Nat → Nat) : Array Value := #[.int .u8 (V 0 : Int), .int .u8 (V 1 : Int), .int .u8 (V 2 : Int), .int .u8 (V 3 : Int), .int .u8 0, .int .u16 (V 5 : Int), .int .u8 (V 6 : Int), .int .u8 (V 7 : Int), .int .u8 (V 8 : Int), .int .u8 (V 9 : Int), .int .u8 (V 10 : Int), .int .u8 (V 11 : Int), .int .u8 (V 12 : Int), .int .u8 (V 13 : Int), .int .u8 (V 14 : Int), .bool (V 15 == 1)]
/-- What a line is as registers. -/
def rdV (l : List UInt8) : Value := if (Lib.split l [32]).length = 9 ∧ tS (parS (Lib.split l [32])) = l then .tuple #[.agg (stA (parS (Lib.split l [32]))), .int .i64 0] else .tuple #[.agg zst, .int .i64 3]
theorem wrap8 (x : Nat) : IntKind.u8.wrap (x : Int) = ((x % 256 : Nat) : Int) := by rw [IntKind.wrap_u8]; omega
set_option maxRecDepth 100000 in
set_option maxHeartbeats 4000000 in
theorem stRead_calls (l : List UInt8) (M : Int) (w : World) (hl : l.length ≤ 1500000) (hM : w.cell? ⟨0, 0, none⟩ = some (.int .i64 M)) :
    Calls Tryd.prog 9 #[.string (str l)] w fun e w' => e = .returned (rdV l) ∧ Below w.heap.size w w' := by
  have h0 : 0 < w.heap.size := World.block_lt_of_cell? w _ hM
  have hZ : Blk (w.alloc (.cells #[.int .u8 0, .int .u8 0, .int .u8 0, .int .u8 0, .int .u8 0, .int .u16 0, .int .u8 0, .int .u8 0, .int .u8 0, .int .u8 0, .int .u8 0, .int .u8 0, .int .u8 0, .int .u8 0, .int .u8 0, .bool false] 25)) w.heap.size 25 zst := Blk.new _ _ _
  have hb : Below w.heap.size w (w.alloc (.cells #[.int .u8 0, .int .u8 0, .int .u8 0, .int .u8 0, .int .u8 0, .int .u16 0, .int .u8 0, .int .u8 0, .int .u8 0, .int .u8 0, .int .u8 0, .int .u8 0, .int .u8 0, .int .u8 0, .int .u8 0, .bool false] 25)) := Bl.alloc (Below.refl _ _) _
  have hpl := fun x hx => part_len 1500000 l 32 x hl hx
  have hspl : ∀ W : World, Below w.heap.size w W → Calls Tryd.prog 28 #[.string (str l), .string (str [32])] W fun e w' => e = .returned (.slice (some ⟨W.heap.size, 0, none⟩) (Lib.split l [32]).length (Lib.split l [32]).length) ∧ w' = W.alloc (.cells (srow (Lib.split l [32])) 9) := fun W hW =>
    stSplit_calls l 32 M W (by omega) ((hW.cell (p := ⟨0, 0, none⟩) h0).trans hM)
  have hsln := split_len l 32
  by_cases h9 : (Lib.split l [32]).length = 9
  · obtain ⟨P, hP⟩ : ∃ P, Lib.split l [32] = P := ⟨_, rfl⟩
    have hrd : rdV l = if tS (parS P) = l then .tuple #[.agg (stA (parS P)), .int .i64 0] else .tuple #[.agg zst, .int .i64 3] := by
      unfold rdV
      rw [hP]
      rw [hP] at h9
      by_cases ht : tS (parS P) = l
      · rw [if_pos ⟨h9, ht⟩, if_pos ht]
      · rw [if_neg (fun h => ht h.2), if_neg ht]
    rw [hP] at h9 hpl hspl
    clear hP
    match P, h9 with
    | [p0, p1, p2, p3, p4, p5, p6, p7, p8], _ =>
    have hok := parS_ok [p0, p1, p2, p3, p4, p5, p6, p7, p8]
    obtain ⟨V, hV⟩ : ∃ V, parS [p0, p1, p2, p3, p4, p5, p6, p7, p8] = V := ⟨_, rfl⟩
    have hok2 := hok
    rw [hV] at hok2
    have hok3 := hide hok2
    have hNa : ∀ w, Calls Tryd.prog 30 #[.string (str p0), .string ⟨#[65]⟩] w fun e w' => e = .returned (.int .u16 (numP p0 [65] : Nat)) ∧ w = w' := fun w => stNumber_calls p0 [65] w (by decide) (by have := hpl p0 (by simp); omega)
    have hVa : V 0 = numP p0 [65] % 256 := by rw [← hV]; rfl
    have hNb : ∀ w, Calls Tryd.prog 30 #[.string (str p1), .string ⟨#[88]⟩] w fun e w' => e = .returned (.int .u16 (numP p1 [88] : Nat)) ∧ w = w' := fun w => stNumber_calls p1 [88] w (by decide) (by have := hpl p1 (by simp); omega)
    have hVb : V 1 = numP p1 [88] % 256 := by rw [← hV]; rfl
    have hNc : ∀ w, Calls Tryd.prog 30 #[.string (str p2), .string ⟨#[89]⟩] w fun e w' => e = .returned (.int .u16 (numP p2 [89] : Nat)) ∧ w = w' := fun w => stNumber_calls p2 [89] w (by decide) (by have := hpl p2 (by simp); omega)
    have hVc : V 2 = numP p2 [89] % 256 := by rw [← hV]; rfl
    have hNd : ∀ w, Calls Tryd.prog 30 #[.string (str p3), .string ⟨#[83]⟩] w fun e w' => e = .returned (.int .u16 (numP p3 [83] : Nat)) ∧ w = w' := fun w => stNumber_calls p3 [83] w (by decide) (by have := hpl p3 (by simp); omega)
    have hVd : V 3 = numP p3 [83] % 256 := by rw [← hV]; rfl
    have hNe : ∀ w, Calls Tryd.prog 30 #[.string (str p7), .string ⟨#[76]⟩] w fun e w' => e = .returned (.int .u16 (numP p7 [76] : Nat)) ∧ w = w' := fun w => stNumber_calls p7 [76] w (by decide) (by have := hpl p7 (by simp); omega)
    have hVe : V 14 = numP p7 [76] % 256 := by rw [← hV]; rfl
    have hNf : ∀ w, Calls Tryd.prog 30 #[.string (str p5), .string ⟨#[80, 67]⟩] w fun e w' => e = .returned (.int .u16 (numP p5 [80, 67] : Nat)) ∧ w = w' := fun w => stNumber_calls p5 [80, 67] w (by decide) (by have := hpl p5 (by simp); omega)
    have hVf : V 5 = numP p5 [80, 67] := by rw [← hV]; rfl
    have hVg : V 4 = flgP p4 := by rw [← hV]; rfl
    have hp6 := hpl p6 (by simp)
    have hp4 := hpl p4 (by simp)
    go_enter Tryd.func9, Tryd.ntmps9
    go_wp2_with fail
    refine (hspl _ hb).mono ?_
    rintro e w1 ⟨rfl, rfl⟩
    have hS : Blk ((w.alloc (.cells #[.int .u8 0, .int .u8 0, .int .u8 0, .int .u8 0, .int .u8 0, .int .u16 0, .int .u8 0, .int .u8 0, .int .u8 0, .int .u8 0, .int .u8 0, .int .u8 0, .int .u8 0, .int .u8 0, .int .u8 0, .bool false] 25)).alloc (.cells (srow [p0, p1, p2, p3, p4, p5, p6, p7, p8]) 9)) (w.heap.size + 1) 9 (srow [p0, p1, p2, p3, p4, p5, p6, p7, p8]) := Blk.newAt (by simp)
    have hZ1 := hZ.alloc (.cells (srow [p0, p1, p2, p3, p4, p5, p6, p7, p8]) 9)
    have hb1 := Bl.alloc hb (.cells (srow [p0, p1, p2, p3, p4, p5, p6, p7, p8]) 9)
    clear hspl hZ hb
    have c4 : ((w.alloc (.cells #[.int .u8 0, .int .u8 0, .int .u8 0, .int .u8 0, .int .u8 0, .int .u16 0, .int .u8 0, .int .u8 0, .int .u8 0, .int .u8 0, .int .u8 0, .int .u8 0, .int .u8 0, .int .u8 0, .int .u8 0, .bool false] 25)).alloc (.cells (srow [p0, p1, p2, p3, p4, p5, p6, p7, p8]) 9)).cell? ⟨w.heap.size + 1, 4, none⟩ = some (.string (str p4)) := hS.cell 4
    go_wp2_with fail
    refine Cl.p (stField_calls p4 [80] _ (by decide)) ?_
    go_upto_region 5 with fail
    have hM1 := (hb1.cell (p := ⟨0, 0, none⟩) h0).trans hM
    generalize (w.alloc (.cells #[.int .u8 0, .int .u8 0, .int .u8 0, .int .u8 0, .int .u8 0, .int .u16 0, .int .u8 0, .int .u8 0, .int .u8 0, .int .u8 0, .int .u8 0, .int .u8 0, .int .u8 0, .int .u8 0, .int .u8 0, .bool false] 25)).alloc (.cells (srow [p0, p1, p2, p3, p4, p5, p6, p7, p8]) 9) = w1 at *
    obtain ⟨gs, hgs⟩ : ∃ x, w.heap.size + 1 = x := ⟨_, rfl⟩
    rw [hgs] at hS ⊢
    clear hgs c4
    have sK : ∀ W, Below w1.heap.size w1 W → W.cell? ⟨gs, 0, none⟩ = some (.string (str p0)) ∧ W.cell? ⟨gs, 1, none⟩ = some (.string (str p1)) ∧ W.cell? ⟨gs, 2, none⟩ = some (.string (str p2)) ∧ W.cell? ⟨gs, 3, none⟩ = some (.string (str p3)) ∧ W.cell? ⟨gs, 5, none⟩ = some (.string (str p5)) ∧ W.cell? ⟨gs, 6, none⟩ = some (.string (str p6)) ∧ W.cell? ⟨gs, 7, none⟩ = some (.string (str p7)) ∧ W.cell? ⟨gs, 8, none⟩ = some (.string (str p8)) := fun W hw => by
      have hh := hS.below hw hS.lt
      exact ⟨hh.cell 0, hh.cell 1, hh.cell 2, hh.cell 3, hh.cell 5, hh.cell 6, hh.cell 7, hh.cell 8⟩
    have SK := hide sK
    clear sK
    have hPg : ∀ W, Below w1.heap.size w1 W → Calls Tryd.prog 31 #[.string (str p6)] W fun e w' => e = .returned (.agg #[.int .u8 (V 6 : Int), .int .u8 (V 7 : Int), .int .u8 (V 8 : Int), .int .u8 (V 9 : Int), .int .u8 (V 10 : Int), .int .u8 (V 11 : Int), .int .u8 (V 12 : Int), .int .u8 (V 13 : Int)]) ∧ Below W.heap.size W w' := fun W hW => by
      rw [← hV]
      exact stPages'_calls p6 M W hp6 ((hW.cell (p := ⟨0, 0, none⟩) (Nat.lt_of_lt_of_le h0 hb1.size)).trans hM1)
    have hSp : ∀ W, Calls Tryd.prog 26 #[.bool true] W fun e w' => e = .returned (.string ⟨#[102, 97, 115, 116]⟩) ∧ W = w' := fun W => stSpeed_calls true W
    have ea : IntKind.u8.wrap ((numP p0 [65] : Nat) : Int) = (V 0 : Int) := by rw [wrap8, hVa]
    have eb : IntKind.u8.wrap ((numP p1 [88] : Nat) : Int) = (V 1 : Int) := by rw [wrap8, hVb]
    have ec : IntKind.u8.wrap ((numP p2 [89] : Nat) : Int) = (V 2 : Int) := by rw [wrap8, hVc]
    have ed : IntKind.u8.wrap ((numP p3 [83] : Nat) : Int) = (V 3 : Int) := by rw [wrap8, hVd]
    have ee : IntKind.u8.wrap ((numP p7 [76] : Nat) : Int) = (V 14 : Int) := by rw [wrap8, hVe]
    have e15 : ((str p8).toList == [102, 97, 115, 116]) = (V 15 == 1) := by
      rw [str_toList]
      have hv : V 15 = if p8 = [102, 97, 115, 116] then 1 else 0 := by rw [← hV]; rfl
      rw [hv]
      by_cases h : p8 = [102, 97, 115, 116]
      · rw [if_pos h, h]; rfl
      · rw [if_neg h, beq_eq_false_iff_ne.2 h]; rfl
    clear hVa hVb hVc hVd hVe hpl
    rw [← hVf] at hNf
    clear hVf
    go_cut [7] (fun s7 wx => ∃ g7, s7 = .pointer (some ⟨g7, 0, none⟩) ∧ w.heap.size < g7 ∧ Blk wx w.heap.size 25 zst ∧ Blk wx g7 25 (rdA V) ∧ Below w.heap.size w wx)
    case first =>
      have hzl := hZ1.lt
      refine wp_region_held_drew (S := fun W => W.cell? ⟨gs, 0, none⟩ = some (.string (str p0)) ∧ W.cell? ⟨gs, 1, none⟩ = some (.string (str p1)) ∧ W.cell? ⟨gs, 2, none⟩ = some (.string (str p2)) ∧ W.cell? ⟨gs, 3, none⟩ = some (.string (str p3)) ∧ W.cell? ⟨gs, 5, none⟩ = some (.string (str p5)) ∧ W.cell? ⟨gs, 6, none⟩ = some (.string (str p6)) ∧ W.cell? ⟨gs, 7, none⟩ = some (.string (str p7)) ∧ W.cell? ⟨gs, 8, none⟩ = some (.string (str p8))) (by kernel_rfl) (SK.out _ (Below.drew (Below.refl _ _))) (fun hS0 => ?_)
      change wpAnyH _ _ _ _ _ 41 #[false, false, false, false, false, false, false, false, false, false, false, false, false, false, false, false, false, false, false, false, false, false, false, false, false, false, false, false, false, false, false, false, false, false, false, false, false, false, false, false, false] _ _
      have hB0 : Below w1.heap.size w1 w1.drew := Below.drew (Below.refl _ _)
      generalize w1.drew = v0 at hS0 hB0 ⊢
      refine wpAnyH_take (i := 0) (v := ?_) rfl (by kernel_rfl) (by kernel_rfl) (by kernel_rfl) (fun _ _ _ h => h) (Or.inl ⟨by rfl, ?_⟩) hS0 ?_
      rotate_left
      · (intro w hSw; (try dsimp only at hSw); go_simp; try with_reducible rfl)
      simp only [List.getElem_toArray, List.getElem_cons_zero, List.getElem_cons_succ, Act.put, List.setIfInBounds_toArray, List.set_cons_zero, List.set_cons_succ]
      refine wpAnyH_take (i := 1) (v := ?_) rfl (by kernel_rfl) (by kernel_rfl) (by kernel_rfl) (fun _ _ _ h => h) (Or.inl ⟨by rfl, ?_⟩) hS0 ?_
      rotate_left
      · (intro w hSw; (try dsimp only at hSw); go_simp; try with_reducible rfl)
      simp only [List.getElem_toArray, List.getElem_cons_zero, List.getElem_cons_succ, Act.put, List.setIfInBounds_toArray, List.set_cons_zero, List.set_cons_succ]
      refine wpAnyH_take (i := 2) (v := ?_) rfl (by kernel_rfl) (by kernel_rfl) (by kernel_rfl) (fun _ _ _ h => h) (Or.inl ⟨by rfl, ?_⟩) hS0 ?_
      rotate_left
      · (intro w hSw; (try dsimp only at hSw); go_simp; try with_reducible rfl)
      simp only [List.getElem_toArray, List.getElem_cons_zero, List.getElem_cons_succ, Act.put, List.setIfInBounds_toArray, List.set_cons_zero, List.set_cons_succ]
      refine wpAnyH_take (i := 5) (v := ?_) rfl (by kernel_rfl) (by kernel_rfl) (by kernel_rfl) (fun _ _ _ h => h) (Or.inl ⟨by rfl, ?_⟩) hS0 ?_
      rotate_left
      · (intro w hSw; (try dsimp only at hSw); go_simp; try with_reducible rfl)
      simp only [List.getElem_toArray, List.getElem_cons_zero, List.getElem_cons_succ, Act.put, List.setIfInBounds_toArray, List.set_cons_zero, List.set_cons_succ]
      refine wpAnyH_take (i := 6) (v := ?_) rfl (by kernel_rfl) (by kernel_rfl) (by kernel_rfl) (fun _ _ _ h => h) (Or.inl ⟨by rfl, ?_⟩) hS0 ?_
      rotate_left
      · (intro w hSw; (try dsimp only at hSw); go_simp; try with_reducible rfl)
      simp only [List.getElem_toArray, List.getElem_cons_zero, List.getElem_cons_succ, Act.put, List.setIfInBounds_toArray, List.set_cons_zero, List.set_cons_succ]
      refine wpAnyH_take (i := 7) (v := ?_) rfl (by kernel_rfl) (by kernel_rfl) (by kernel_rfl) (fun _ _ _ h => h) (Or.inl ⟨by rfl, ?_⟩) hS0 ?_
      rotate_left
      · (intro w hSw; (try dsimp only at hSw); go_simp; try with_reducible rfl)
      simp only [List.getElem_toArray, List.getElem_cons_zero, List.getElem_cons_succ, Act.put, List.setIfInBounds_toArray, List.set_cons_zero, List.set_cons_succ]
      refine wpAnyH_take (i := 10) (v := ?_) rfl (by kernel_rfl) (by kernel_rfl) (by kernel_rfl) (fun _ _ _ h => h) (Or.inl ⟨by rfl, ?_⟩) hS0 ?_
      rotate_left
      · (intro w hSw; (try dsimp only at hSw); go_simp; try with_reducible rfl)
      simp only [List.getElem_toArray, List.getElem_cons_zero, List.getElem_cons_succ, Act.put, List.setIfInBounds_toArray, List.set_cons_zero, List.set_cons_succ]
      refine wpAnyH_take (i := 11) (v := ?_) rfl (by kernel_rfl) (by kernel_rfl) (by kernel_rfl) (fun _ _ _ h => h) (Or.inl ⟨by rfl, ?_⟩) hS0 ?_
      rotate_left
      · (intro w hSw; (try dsimp only at hSw); go_simp; try with_reducible rfl)
      simp only [List.getElem_toArray, List.getElem_cons_zero, List.getElem_cons_succ, Act.put, List.setIfInBounds_toArray, List.set_cons_zero, List.set_cons_succ]
      refine wpAnyH_take (i := 12) (v := ?_) rfl (by kernel_rfl) (by kernel_rfl) (by kernel_rfl) (fun _ _ _ h => h) (Or.inl ⟨by rfl, ?_⟩) hS0 ?_
      rotate_left
      · (intro w hSw; (try dsimp only at hSw); go_simp; try with_reducible rfl)
      simp only [List.getElem_toArray, List.getElem_cons_zero, List.getElem_cons_succ, Act.put, List.setIfInBounds_toArray, List.set_cons_zero, List.set_cons_succ]
      refine wpAnyH_take (i := 15) (v := ?_) rfl (by kernel_rfl) (by kernel_rfl) (by kernel_rfl) (fun _ _ _ h => h) (Or.inl ⟨by rfl, ?_⟩) hS0 ?_
      rotate_left
      · (intro w hSw; (try dsimp only at hSw); go_simp; try with_reducible rfl)
      simp only [List.getElem_toArray, List.getElem_cons_zero, List.getElem_cons_succ, Act.put, List.setIfInBounds_toArray, List.set_cons_zero, List.set_cons_succ]
      refine wpAnyH_take (i := 16) (v := ?_) rfl (by kernel_rfl) (by kernel_rfl) (by kernel_rfl) (fun _ _ _ h => h) (Or.inl ⟨by rfl, ?_⟩) hS0 ?_
      rotate_left
      · (intro w hSw; (try dsimp only at hSw); go_simp; try with_reducible rfl)
      simp only [List.getElem_toArray, List.getElem_cons_zero, List.getElem_cons_succ, Act.put, List.setIfInBounds_toArray, List.set_cons_zero, List.set_cons_succ]
      refine wpAnyH_take (i := 17) (v := ?_) rfl (by kernel_rfl) (by kernel_rfl) (by kernel_rfl) (fun _ _ _ h => h) (Or.inl ⟨by rfl, ?_⟩) hS0 ?_
      rotate_left
      · (intro w hSw; (try dsimp only at hSw); go_simp; try with_reducible rfl)
      simp only [List.getElem_toArray, List.getElem_cons_zero, List.getElem_cons_succ, Act.put, List.setIfInBounds_toArray, List.set_cons_zero, List.set_cons_succ]
      refine wpAnyH_take (i := 20) (v := ?_) rfl (by kernel_rfl) (by kernel_rfl) (by kernel_rfl) (fun _ _ _ h => h) (Or.inl ⟨by rfl, ?_⟩) hS0 ?_
      rotate_left
      · (intro w hSw; (try dsimp only at hSw); go_simp; try with_reducible rfl)
      simp only [List.getElem_toArray, List.getElem_cons_zero, List.getElem_cons_succ, Act.put, List.setIfInBounds_toArray, List.set_cons_zero, List.set_cons_succ]
      refine wpAnyH_take (i := 21) (v := ?_) rfl (by kernel_rfl) (by kernel_rfl) (by kernel_rfl) (fun _ _ _ h => h) (Or.inl ⟨by rfl, ?_⟩) hS0 ?_
      rotate_left
      · (intro w hSw; (try dsimp only at hSw); go_simp; try with_reducible rfl)
      simp only [List.getElem_toArray, List.getElem_cons_zero, List.getElem_cons_succ, Act.put, List.setIfInBounds_toArray, List.set_cons_zero, List.set_cons_succ]
      refine wpAnyH_take (i := 22) (v := ?_) rfl (by kernel_rfl) (by kernel_rfl) (by kernel_rfl) (fun _ _ _ h => h) (Or.inl ⟨by rfl, ?_⟩) hS0 ?_
      rotate_left
      · (intro w hSw; (try dsimp only at hSw); go_simp; try with_reducible rfl)
      simp only [List.getElem_toArray, List.getElem_cons_zero, List.getElem_cons_succ, Act.put, List.setIfInBounds_toArray, List.set_cons_zero, List.set_cons_succ]
      refine wpAnyH_take (i := 24) (v := ?_) rfl (by kernel_rfl) (by kernel_rfl) (by kernel_rfl) (fun _ _ _ h => h) (Or.inl ⟨by rfl, ?_⟩) hS0 ?_
      rotate_left
      · (intro w hSw; (try dsimp only at hSw); go_simp; try with_reducible rfl)
      simp only [List.getElem_toArray, List.getElem_cons_zero, List.getElem_cons_succ, Act.put, List.setIfInBounds_toArray, List.set_cons_zero, List.set_cons_succ]
      refine wpAnyH_take (i := 25) (v := ?_) rfl (by kernel_rfl) (by kernel_rfl) (by kernel_rfl) (fun _ _ _ h => h) (Or.inl ⟨by rfl, ?_⟩) hS0 ?_
      rotate_left
      · (intro w hSw; (try dsimp only at hSw); go_simp; try with_reducible rfl)
      simp only [List.getElem_toArray, List.getElem_cons_zero, List.getElem_cons_succ, Act.put, List.setIfInBounds_toArray, List.set_cons_zero, List.set_cons_succ]
      refine wpAnyH_take (i := 26) (v := ?_) rfl (by kernel_rfl) (by kernel_rfl) (by kernel_rfl) (fun _ _ _ h => h) (Or.inl ⟨by rfl, ?_⟩) hS0 ?_
      rotate_left
      · (intro w hSw; (try dsimp only at hSw); go_simp; try with_reducible rfl)
      simp only [List.getElem_toArray, List.getElem_cons_zero, List.getElem_cons_succ, Act.put, List.setIfInBounds_toArray, List.set_cons_zero, List.set_cons_succ]
      refine wpAnyH_take (i := 28) (v := ?_) rfl (by kernel_rfl) (by kernel_rfl) (by kernel_rfl) (fun _ _ _ h => h) (Or.inl ⟨by rfl, ?_⟩) hS0 ?_
      rotate_left
      · (intro w hSw; (try dsimp only at hSw); go_simp; try with_reducible rfl)
      simp only [List.getElem_toArray, List.getElem_cons_zero, List.getElem_cons_succ, Act.put, List.setIfInBounds_toArray, List.set_cons_zero, List.set_cons_succ]
      refine wpAnyH_take (i := 29) (v := ?_) rfl (by kernel_rfl) (by kernel_rfl) (by kernel_rfl) (fun _ _ _ h => h) (Or.inl ⟨by rfl, ?_⟩) hS0 ?_
      rotate_left
      · (intro w hSw; (try dsimp only at hSw); go_simp; try with_reducible rfl)
      simp only [List.getElem_toArray, List.getElem_cons_zero, List.getElem_cons_succ, Act.put, List.setIfInBounds_toArray, List.set_cons_zero, List.set_cons_succ]
      refine wpAnyH_take (i := 30) (v := ?_) rfl (by kernel_rfl) (by kernel_rfl) (by kernel_rfl) (fun _ _ _ h => h) (Or.inl ⟨by rfl, ?_⟩) hS0 ?_
      rotate_left
      · (intro w hSw; (try dsimp only at hSw); go_simp; try with_reducible rfl)
      simp only [List.getElem_toArray, List.getElem_cons_zero, List.getElem_cons_succ, Act.put, List.setIfInBounds_toArray, List.set_cons_zero, List.set_cons_succ]
      refine wpAnyH_take (i := 33) (v := ?_) rfl (by kernel_rfl) (by kernel_rfl) (by kernel_rfl) (fun _ _ _ h => h) (Or.inl ⟨by rfl, ?_⟩) hS0 ?_
      rotate_left
      · (intro w hSw; (try dsimp only at hSw); go_simp; try with_reducible rfl)
      simp only [List.getElem_toArray, List.getElem_cons_zero, List.getElem_cons_succ, Act.put, List.setIfInBounds_toArray, List.set_cons_zero, List.set_cons_succ]
      refine wpAnyH_take (i := 34) (v := ?_) rfl (by kernel_rfl) (by kernel_rfl) (by kernel_rfl) (fun _ _ _ h => h) (Or.inl ⟨by rfl, ?_⟩) hS0 ?_
      rotate_left
      · (intro w hSw; (try dsimp only at hSw); go_simp; try with_reducible rfl)
      simp only [List.getElem_toArray, List.getElem_cons_zero, List.getElem_cons_succ, Act.put, List.setIfInBounds_toArray, List.set_cons_zero, List.set_cons_succ]
      refine wpAnyH_take (i := 35) (v := ?_) rfl (by kernel_rfl) (by kernel_rfl) (by kernel_rfl) (fun _ _ _ h => h) (Or.inl ⟨by rfl, ?_⟩) hS0 ?_
      rotate_left
      · (intro w hSw; (try dsimp only at hSw); go_simp; try with_reducible rfl)
      simp only [List.getElem_toArray, List.getElem_cons_zero, List.getElem_cons_succ, Act.put, List.setIfInBounds_toArray, List.set_cons_zero, List.set_cons_succ]
      refine wpAnyH_ready (rs := [3, 39]) (by kernel_rfl) (by simp) ?_
      refine AllReadyH.cons rfl (fun K hK => ?_) ?_
      · -- quiet 3
        go_simp
        refine (hNa _).mono ?_
        rintro e w' ⟨rfl, rfl⟩
        (try go_simp)
        refine hK.out _ _ hS0 (fun _ => ?_)
        clear hK K
        simp only [List.getElem_toArray, List.getElem_cons_zero, List.getElem_cons_succ, Act.put, List.setIfInBounds_toArray, List.set_cons_zero, List.set_cons_succ]
        refine wpAnyH_take (i := 4) (v := ?_) rfl (by kernel_rfl) (by kernel_rfl) (by kernel_rfl) (fun _ _ _ h => h) (Or.inl ⟨by rfl, ?_⟩) hS0 ?_
        rotate_left
        · (intro w hSw; (try dsimp only at hSw); go_simp; try with_reducible rfl)
        simp only [List.getElem_toArray, List.getElem_cons_zero, List.getElem_cons_succ, Act.put, List.setIfInBounds_toArray, List.set_cons_zero, List.set_cons_succ]
        refine wpAnyH_ready (rs := [8, 39]) (by kernel_rfl) (by simp) ?_
        refine AllReadyH.cons rfl (fun K hK => ?_) ?_
        · -- quiet 8
          go_simp
          refine (hNb _).mono ?_
          rintro e w' ⟨rfl, rfl⟩
          (try go_simp)
          refine hK.out _ _ hS0 (fun _ => ?_)
          clear hK K
          simp only [List.getElem_toArray, List.getElem_cons_zero, List.getElem_cons_succ, Act.put, List.setIfInBounds_toArray, List.set_cons_zero, List.set_cons_succ]
          refine wpAnyH_take (i := 9) (v := ?_) rfl (by kernel_rfl) (by kernel_rfl) (by kernel_rfl) (fun _ _ _ h => h) (Or.inl ⟨by rfl, ?_⟩) hS0 ?_
          rotate_left
          · (intro w hSw; (try dsimp only at hSw); go_simp; try with_reducible rfl)
          simp only [List.getElem_toArray, List.getElem_cons_zero, List.getElem_cons_succ, Act.put, List.setIfInBounds_toArray, List.set_cons_zero, List.set_cons_succ]
          refine wpAnyH_ready (rs := [13, 39]) (by kernel_rfl) (by simp) ?_
          refine AllReadyH.cons rfl (fun K hK => ?_) ?_
          · -- quiet 13
            go_simp
            refine (hNc _).mono ?_
            rintro e w' ⟨rfl, rfl⟩
            (try go_simp)
            refine hK.out _ _ hS0 (fun _ => ?_)
            clear hK K
            simp only [List.getElem_toArray, List.getElem_cons_zero, List.getElem_cons_succ, Act.put, List.setIfInBounds_toArray, List.set_cons_zero, List.set_cons_succ]
            refine wpAnyH_take (i := 14) (v := ?_) rfl (by kernel_rfl) (by kernel_rfl) (by kernel_rfl) (fun _ _ _ h => h) (Or.inl ⟨by rfl, ?_⟩) hS0 ?_
            rotate_left
            · (intro w hSw; (try dsimp only at hSw); go_simp; try with_reducible rfl)
            simp only [List.getElem_toArray, List.getElem_cons_zero, List.getElem_cons_succ, Act.put, List.setIfInBounds_toArray, List.set_cons_zero, List.set_cons_succ]
            refine wpAnyH_ready (rs := [18, 39]) (by kernel_rfl) (by simp) ?_
            refine AllReadyH.cons rfl (fun K hK => ?_) ?_
            · -- quiet 18
              go_simp
              refine (hNd _).mono ?_
              rintro e w' ⟨rfl, rfl⟩
              (try go_simp)
              refine hK.out _ _ hS0 (fun _ => ?_)
              clear hK K
              simp only [List.getElem_toArray, List.getElem_cons_zero, List.getElem_cons_succ, Act.put, List.setIfInBounds_toArray, List.set_cons_zero, List.set_cons_succ]
              refine wpAnyH_take (i := 19) (v := ?_) rfl (by kernel_rfl) (by kernel_rfl) (by kernel_rfl) (fun _ _ _ h => h) (Or.inl ⟨by rfl, ?_⟩) hS0 ?_
              rotate_left
              · (intro w hSw; (try dsimp only at hSw); go_simp; try with_reducible rfl)
              simp only [List.getElem_toArray, List.getElem_cons_zero, List.getElem_cons_succ, Act.put, List.setIfInBounds_toArray, List.set_cons_zero, List.set_cons_succ]
              refine wpAnyH_ready (rs := [23, 39]) (by kernel_rfl) (by simp) ?_
              refine AllReadyH.cons rfl (fun K hK => ?_) ?_
              · -- quiet 23
                go_simp
                refine (hNf _).mono ?_
                rintro e w' ⟨rfl, rfl⟩
                (try go_simp)
                refine hK.out _ _ hS0 (fun _ => ?_)
                clear hK K
                simp only [List.getElem_toArray, List.getElem_cons_zero, List.getElem_cons_succ, Act.put, List.setIfInBounds_toArray, List.set_cons_zero, List.set_cons_succ]
                refine wpAnyH_ready (rs := [27, 39]) (by kernel_rfl) (by simp) ?_
                refine AllReadyH.cons rfl (fun K hK => ?_) ?_
                · -- call 27
                  go_simp
                  refine (hPg _ hB0).mono ?_
                  rintro e v1 ⟨rfl, hb1⟩
                  (try go_simp)
                  have hB1 := Bl.chain hB0 hb1 (Nat.le_refl _)
                  refine hK.out _ _ (SK.out _ hB1) (fun hS1 => ?_)
                  clear hK K
                  clear hb1
                  simp only [List.getElem_toArray, List.getElem_cons_zero, List.getElem_cons_succ, Act.put, List.setIfInBounds_toArray, List.set_cons_zero, List.set_cons_succ]
                  refine wpAnyH_ready (rs := [31, 39]) (by kernel_rfl) (by simp) ?_
                  refine AllReadyH.cons rfl (fun K hK => ?_) ?_
                  · -- quiet 31
                    go_simp
                    refine (hNe _).mono ?_
                    rintro e w' ⟨rfl, rfl⟩
                    (try go_simp)
                    refine hK.out _ _ hS1 (fun _ => ?_)
                    clear hK K
                    simp only [List.getElem_toArray, List.getElem_cons_zero, List.getElem_cons_succ, Act.put, List.setIfInBounds_toArray, List.set_cons_zero, List.set_cons_succ]
                    refine wpAnyH_take (i := 32) (v := ?_) rfl (by kernel_rfl) (by kernel_rfl) (by kernel_rfl) (fun _ _ _ h => h) (Or.inl ⟨by rfl, ?_⟩) hS1 ?_
                    rotate_left
                    · (intro w hSw; (try dsimp only at hSw); go_simp; try with_reducible rfl)
                    simp only [List.getElem_toArray, List.getElem_cons_zero, List.getElem_cons_succ, Act.put, List.setIfInBounds_toArray, List.set_cons_zero, List.set_cons_succ]
                    refine wpAnyH_ready (rs := [36, 39]) (by kernel_rfl) (by simp) ?_
                    refine AllReadyH.cons rfl (fun K hK => ?_) ?_
                    · -- quiet 36
                      go_simp
                      refine (hSp _).mono ?_
                      rintro e w' ⟨rfl, rfl⟩
                      (try go_simp)
                      refine hK.out _ _ hS1 (fun _ => ?_)
                      clear hK K
                      simp only [List.getElem_toArray, List.getElem_cons_zero, List.getElem_cons_succ, Act.put, List.setIfInBounds_toArray, List.set_cons_zero, List.set_cons_succ]
                      refine wpAnyH_take (i := 37) (v := ?_) rfl (by kernel_rfl) (by kernel_rfl) (by kernel_rfl) (fun _ _ _ h => h) (Or.inl ⟨by rfl, ?_⟩) hS1 ?_
                      rotate_left
                      · (intro w hSw; (try dsimp only at hSw); go_simp; try with_reducible rfl)
                      simp only [List.getElem_toArray, List.getElem_cons_zero, List.getElem_cons_succ, Act.put, List.setIfInBounds_toArray, List.set_cons_zero, List.set_cons_succ]
                      refine wpAnyH_take (i := 38) (v := ?_) rfl (by kernel_rfl) (by kernel_rfl) (by kernel_rfl) (fun _ _ _ h => h) (Or.inl ⟨by rfl, ?_⟩) hS1 ?_
                      rotate_left
                      · (intro w hSw; (try dsimp only at hSw); go_simp; try with_reducible rfl)
                      simp only [List.getElem_toArray, List.getElem_cons_zero, List.getElem_cons_succ, Act.put, List.setIfInBounds_toArray, List.set_cons_zero, List.set_cons_succ]
                      refine wpAnyH_ready (rs := [39]) (by kernel_rfl) (by simp) ?_
                      refine AllReadyH.cons rfl (fun K hK => ?_) ?_
                      · -- alloc 39
                        go_simp
                        have hB2 := Bl.alloc hB1 (.cells #[.int .u8 0, .int .u8 0, .int .u8 0, .int .u8 0, .int .u8 0, .int .u16 0, .int .u8 0, .int .u8 0, .int .u8 0, .int .u8 0, .int .u8 0, .int .u8 0, .int .u8 0, .int .u8 0, .int .u8 0, .bool false] 25)
                        refine hK.out _ _ (SK.out _ hB2) (fun hS2 => ?_)
                        clear hK K
                        have hN39_2 : Blk (v1.alloc (.cells #[.int .u8 0, .int .u8 0, .int .u8 0, .int .u8 0, .int .u8 0, .int .u16 0, .int .u8 0, .int .u8 0, .int .u8 0, .int .u8 0, .int .u8 0, .int .u8 0, .int .u8 0, .int .u8 0, .int .u8 0, .bool false] 25)) v1.heap.size 25 #[.int .u8 0, .int .u8 0, .int .u8 0, .int .u8 0, .int .u8 0, .int .u16 0, .int .u8 0, .int .u8 0, .int .u8 0, .int .u8 0, .int .u8 0, .int .u8 0, .int .u8 0, .int .u8 0, .int .u8 0, .bool false] := Blk.new _ _ _
                        have hge39 := hB1.size
                        generalize v1.alloc (.cells #[.int .u8 0, .int .u8 0, .int .u8 0, .int .u8 0, .int .u8 0, .int .u16 0, .int .u8 0, .int .u8 0, .int .u8 0, .int .u8 0, .int .u8 0, .int .u8 0, .int .u8 0, .int .u8 0, .int .u8 0, .bool false] 25) = v2 at *
                        obtain ⟨g39, hg39⟩ : ∃ x, v1.heap.size = x := ⟨_, rfl⟩
                        rw [hg39] at hN39_2 hge39  ⊢
                        clear hg39
                        simp only [List.getElem_toArray, List.getElem_cons_zero, List.getElem_cons_succ, Act.put, List.setIfInBounds_toArray, List.set_cons_zero, List.set_cons_succ]
                        refine wpAnyH_ready (rs := [40]) (by kernel_rfl) (by simp) ?_
                        refine AllReadyH.cons rfl (fun K hK => ?_) ?_
                        · -- store 40
                          rw [if_pos (show Region.wanted _ _ = true from by rfl)]
                          refine wp_store_row 25 _ _ rfl g39 (rdA V) rfl rfl 25 _ hN39_2 (by kernel_rfl) rfl (by kernel_rfl) ?_
                          have hB3 := below_setRow hB2 hge39 (rdA V)
                          refine hK.out _ _ (SK.out _ hB3) (fun hS3 => ?_)
                          clear hK K
                          have hN39_3 := hN39_2.setRow (rdA V)
                          generalize v2.setRow g39 (rdA V) = v3 at *
                          simp only [List.getElem_toArray, List.getElem_cons_zero, List.getElem_cons_succ, Act.put, List.setIfInBounds_toArray, List.set_cons_zero, List.set_cons_succ]
                          refine wpAnyH_done (by kernel_rfl) ?_ _
                          go_wp2_with fail
                          go_meet
                          exact ⟨g39, rfl, Nat.lt_of_lt_of_le hzl hge39, hZ1.below hB3 hZ1.lt, hN39_3, hb1.trans (hB3.mono hb1.size)⟩
                        exact AllReadyH.nil
                      exact AllReadyH.nil
                    refine AllReadyH.cons rfl (fun K hK => ?_) ?_
                    · -- alloc 39
                      go_simp
                      have hB2 := Bl.alloc hB1 (.cells #[.int .u8 0, .int .u8 0, .int .u8 0, .int .u8 0, .int .u8 0, .int .u16 0, .int .u8 0, .int .u8 0, .int .u8 0, .int .u8 0, .int .u8 0, .int .u8 0, .int .u8 0, .int .u8 0, .int .u8 0, .bool false] 25)
                      refine hK.out _ _ (SK.out _ hB2) (fun hS2 => ?_)
                      clear hK K
                      have hN39_2 : Blk (v1.alloc (.cells #[.int .u8 0, .int .u8 0, .int .u8 0, .int .u8 0, .int .u8 0, .int .u16 0, .int .u8 0, .int .u8 0, .int .u8 0, .int .u8 0, .int .u8 0, .int .u8 0, .int .u8 0, .int .u8 0, .int .u8 0, .bool false] 25)) v1.heap.size 25 #[.int .u8 0, .int .u8 0, .int .u8 0, .int .u8 0, .int .u8 0, .int .u16 0, .int .u8 0, .int .u8 0, .int .u8 0, .int .u8 0, .int .u8 0, .int .u8 0, .int .u8 0, .int .u8 0, .int .u8 0, .bool false] := Blk.new _ _ _
                      have hge39 := hB1.size
                      generalize v1.alloc (.cells #[.int .u8 0, .int .u8 0, .int .u8 0, .int .u8 0, .int .u8 0, .int .u16 0, .int .u8 0, .int .u8 0, .int .u8 0, .int .u8 0, .int .u8 0, .int .u8 0, .int .u8 0, .int .u8 0, .int .u8 0, .bool false] 25) = v2 at *
                      obtain ⟨g39, hg39⟩ : ∃ x, v1.heap.size = x := ⟨_, rfl⟩
                      rw [hg39] at hN39_2 hge39  ⊢
                      clear hg39
                      simp only [List.getElem_toArray, List.getElem_cons_zero, List.getElem_cons_succ, Act.put, List.setIfInBounds_toArray, List.set_cons_zero, List.set_cons_succ]
                      refine wpAnyH_ready (rs := [36]) (by kernel_rfl) (by simp) ?_
                      refine AllReadyH.cons rfl (fun K hK => ?_) ?_
                      · -- quiet 36
                        go_simp
                        refine (hSp _).mono ?_
                        rintro e w' ⟨rfl, rfl⟩
                        (try go_simp)
                        refine hK.out _ _ hS2 (fun _ => ?_)
                        clear hK K
                        simp only [List.getElem_toArray, List.getElem_cons_zero, List.getElem_cons_succ, Act.put, List.setIfInBounds_toArray, List.set_cons_zero, List.set_cons_succ]
                        refine wpAnyH_take (i := 37) (v := ?_) rfl (by kernel_rfl) (by kernel_rfl) (by kernel_rfl) (fun _ _ _ h => h) (Or.inl ⟨by rfl, ?_⟩) hS2 ?_
                        rotate_left
                        · (intro w hSw; (try dsimp only at hSw); go_simp; try with_reducible rfl)
                        simp only [List.getElem_toArray, List.getElem_cons_zero, List.getElem_cons_succ, Act.put, List.setIfInBounds_toArray, List.set_cons_zero, List.set_cons_succ]
                        refine wpAnyH_take (i := 38) (v := ?_) rfl (by kernel_rfl) (by kernel_rfl) (by kernel_rfl) (fun _ _ _ h => h) (Or.inl ⟨by rfl, ?_⟩) hS2 ?_
                        rotate_left
                        · (intro w hSw; (try dsimp only at hSw); go_simp; try with_reducible rfl)
                        simp only [List.getElem_toArray, List.getElem_cons_zero, List.getElem_cons_succ, Act.put, List.setIfInBounds_toArray, List.set_cons_zero, List.set_cons_succ]
                        refine wpAnyH_ready (rs := [40]) (by kernel_rfl) (by simp) ?_
                        refine AllReadyH.cons rfl (fun K hK => ?_) ?_
                        · -- store 40
                          rw [if_pos (show Region.wanted _ _ = true from by rfl)]
                          refine wp_store_row 25 _ _ rfl g39 (rdA V) rfl rfl 25 _ hN39_2 (by kernel_rfl) rfl (by kernel_rfl) ?_
                          have hB3 := below_setRow hB2 hge39 (rdA V)
                          refine hK.out _ _ (SK.out _ hB3) (fun hS3 => ?_)
                          clear hK K
                          have hN39_3 := hN39_2.setRow (rdA V)
                          generalize v2.setRow g39 (rdA V) = v3 at *
                          simp only [List.getElem_toArray, List.getElem_cons_zero, List.getElem_cons_succ, Act.put, List.setIfInBounds_toArray, List.set_cons_zero, List.set_cons_succ]
                          refine wpAnyH_done (by kernel_rfl) ?_ _
                          go_wp2_with fail
                          go_meet
                          exact ⟨g39, rfl, Nat.lt_of_lt_of_le hzl hge39, hZ1.below hB3 hZ1.lt, hN39_3, hb1.trans (hB3.mono hb1.size)⟩
                        exact AllReadyH.nil
                      exact AllReadyH.nil
                    exact AllReadyH.nil
                  refine AllReadyH.cons rfl (fun K hK => ?_) ?_
                  · -- alloc 39
                    go_simp
                    have hB2 := Bl.alloc hB1 (.cells #[.int .u8 0, .int .u8 0, .int .u8 0, .int .u8 0, .int .u8 0, .int .u16 0, .int .u8 0, .int .u8 0, .int .u8 0, .int .u8 0, .int .u8 0, .int .u8 0, .int .u8 0, .int .u8 0, .int .u8 0, .bool false] 25)
                    refine hK.out _ _ (SK.out _ hB2) (fun hS2 => ?_)
                    clear hK K
                    have hN39_2 : Blk (v1.alloc (.cells #[.int .u8 0, .int .u8 0, .int .u8 0, .int .u8 0, .int .u8 0, .int .u16 0, .int .u8 0, .int .u8 0, .int .u8 0, .int .u8 0, .int .u8 0, .int .u8 0, .int .u8 0, .int .u8 0, .int .u8 0, .bool false] 25)) v1.heap.size 25 #[.int .u8 0, .int .u8 0, .int .u8 0, .int .u8 0, .int .u8 0, .int .u16 0, .int .u8 0, .int .u8 0, .int .u8 0, .int .u8 0, .int .u8 0, .int .u8 0, .int .u8 0, .int .u8 0, .int .u8 0, .bool false] := Blk.new _ _ _
                    have hge39 := hB1.size
                    generalize v1.alloc (.cells #[.int .u8 0, .int .u8 0, .int .u8 0, .int .u8 0, .int .u8 0, .int .u16 0, .int .u8 0, .int .u8 0, .int .u8 0, .int .u8 0, .int .u8 0, .int .u8 0, .int .u8 0, .int .u8 0, .int .u8 0, .bool false] 25) = v2 at *
                    obtain ⟨g39, hg39⟩ : ∃ x, v1.heap.size = x := ⟨_, rfl⟩
                    rw [hg39] at hN39_2 hge39  ⊢
                    clear hg39
                    simp only [List.getElem_toArray, List.getElem_cons_zero, List.getElem_cons_succ, Act.put, List.setIfInBounds_toArray, List.set_cons_zero, List.set_cons_succ]
                    refine wpAnyH_ready (rs := [31]) (by kernel_rfl) (by simp) ?_
                    refine AllReadyH.cons rfl (fun K hK => ?_) ?_
                    · -- quiet 31
                      go_simp
                      refine (hNe _).mono ?_
                      rintro e w' ⟨rfl, rfl⟩
                      (try go_simp)
                      refine hK.out _ _ hS2 (fun _ => ?_)
                      clear hK K
                      simp only [List.getElem_toArray, List.getElem_cons_zero, List.getElem_cons_succ, Act.put, List.setIfInBounds_toArray, List.set_cons_zero, List.set_cons_succ]
                      refine wpAnyH_take (i := 32) (v := ?_) rfl (by kernel_rfl) (by kernel_rfl) (by kernel_rfl) (fun _ _ _ h => h) (Or.inl ⟨by rfl, ?_⟩) hS2 ?_
                      rotate_left
                      · (intro w hSw; (try dsimp only at hSw); go_simp; try with_reducible rfl)
                      simp only [List.getElem_toArray, List.getElem_cons_zero, List.getElem_cons_succ, Act.put, List.setIfInBounds_toArray, List.set_cons_zero, List.set_cons_succ]
                      refine wpAnyH_ready (rs := [36]) (by kernel_rfl) (by simp) ?_
                      refine AllReadyH.cons rfl (fun K hK => ?_) ?_
                      · -- quiet 36
                        go_simp
                        refine (hSp _).mono ?_
                        rintro e w' ⟨rfl, rfl⟩
                        (try go_simp)
                        refine hK.out _ _ hS2 (fun _ => ?_)
                        clear hK K
                        simp only [List.getElem_toArray, List.getElem_cons_zero, List.getElem_cons_succ, Act.put, List.setIfInBounds_toArray, List.set_cons_zero, List.set_cons_succ]
                        refine wpAnyH_take (i := 37) (v := ?_) rfl (by kernel_rfl) (by kernel_rfl) (by kernel_rfl) (fun _ _ _ h => h) (Or.inl ⟨by rfl, ?_⟩) hS2 ?_
                        rotate_left
                        · (intro w hSw; (try dsimp only at hSw); go_simp; try with_reducible rfl)
                        simp only [List.getElem_toArray, List.getElem_cons_zero, List.getElem_cons_succ, Act.put, List.setIfInBounds_toArray, List.set_cons_zero, List.set_cons_succ]
                        refine wpAnyH_take (i := 38) (v := ?_) rfl (by kernel_rfl) (by kernel_rfl) (by kernel_rfl) (fun _ _ _ h => h) (Or.inl ⟨by rfl, ?_⟩) hS2 ?_
                        rotate_left
                        · (intro w hSw; (try dsimp only at hSw); go_simp; try with_reducible rfl)
                        simp only [List.getElem_toArray, List.getElem_cons_zero, List.getElem_cons_succ, Act.put, List.setIfInBounds_toArray, List.set_cons_zero, List.set_cons_succ]
                        refine wpAnyH_ready (rs := [40]) (by kernel_rfl) (by simp) ?_
                        refine AllReadyH.cons rfl (fun K hK => ?_) ?_
                        · -- store 40
                          rw [if_pos (show Region.wanted _ _ = true from by rfl)]
                          refine wp_store_row 25 _ _ rfl g39 (rdA V) rfl rfl 25 _ hN39_2 (by kernel_rfl) rfl (by kernel_rfl) ?_
                          have hB3 := below_setRow hB2 hge39 (rdA V)
                          refine hK.out _ _ (SK.out _ hB3) (fun hS3 => ?_)
                          clear hK K
                          have hN39_3 := hN39_2.setRow (rdA V)
                          generalize v2.setRow g39 (rdA V) = v3 at *
                          simp only [List.getElem_toArray, List.getElem_cons_zero, List.getElem_cons_succ, Act.put, List.setIfInBounds_toArray, List.set_cons_zero, List.set_cons_succ]
                          refine wpAnyH_done (by kernel_rfl) ?_ _
                          go_wp2_with fail
                          go_meet
                          exact ⟨g39, rfl, Nat.lt_of_lt_of_le hzl hge39, hZ1.below hB3 hZ1.lt, hN39_3, hb1.trans (hB3.mono hb1.size)⟩
                        exact AllReadyH.nil
                      exact AllReadyH.nil
                    exact AllReadyH.nil
                  exact AllReadyH.nil
                refine AllReadyH.cons rfl (fun K hK => ?_) ?_
                · -- alloc 39
                  go_simp
                  have hB1 := Bl.alloc hB0 (.cells #[.int .u8 0, .int .u8 0, .int .u8 0, .int .u8 0, .int .u8 0, .int .u16 0, .int .u8 0, .int .u8 0, .int .u8 0, .int .u8 0, .int .u8 0, .int .u8 0, .int .u8 0, .int .u8 0, .int .u8 0, .bool false] 25)
                  refine hK.out _ _ (SK.out _ hB1) (fun hS1 => ?_)
                  clear hK K
                  have hN39_1 : Blk (v0.alloc (.cells #[.int .u8 0, .int .u8 0, .int .u8 0, .int .u8 0, .int .u8 0, .int .u16 0, .int .u8 0, .int .u8 0, .int .u8 0, .int .u8 0, .int .u8 0, .int .u8 0, .int .u8 0, .int .u8 0, .int .u8 0, .bool false] 25)) v0.heap.size 25 #[.int .u8 0, .int .u8 0, .int .u8 0, .int .u8 0, .int .u8 0, .int .u16 0, .int .u8 0, .int .u8 0, .int .u8 0, .int .u8 0, .int .u8 0, .int .u8 0, .int .u8 0, .int .u8 0, .int .u8 0, .bool false] := Blk.new _ _ _
                  have hge39 := hB0.size
                  generalize v0.alloc (.cells #[.int .u8 0, .int .u8 0, .int .u8 0, .int .u8 0, .int .u8 0, .int .u16 0, .int .u8 0, .int .u8 0, .int .u8 0, .int .u8 0, .int .u8 0, .int .u8 0, .int .u8 0, .int .u8 0, .int .u8 0, .bool false] 25) = v1 at *
                  obtain ⟨g39, hg39⟩ : ∃ x, v0.heap.size = x := ⟨_, rfl⟩
                  rw [hg39] at hN39_1 hge39  ⊢
                  clear hg39
                  simp only [List.getElem_toArray, List.getElem_cons_zero, List.getElem_cons_succ, Act.put, List.setIfInBounds_toArray, List.set_cons_zero, List.set_cons_succ]
                  refine wpAnyH_ready (rs := [27]) (by kernel_rfl) (by simp) ?_
                  refine AllReadyH.cons rfl (fun K hK => ?_) ?_
                  · -- call 27
                    go_simp
                    refine (hPg _ hB1).mono ?_
                    rintro e v2 ⟨rfl, hb2⟩
                    (try go_simp)
                    have hB2 := Bl.chain hB1 hb2 (Nat.le_refl _)
                    refine hK.out _ _ (SK.out _ hB2) (fun hS2 => ?_)
                    clear hK K
                    have hN39_2 := hN39_1.below hb2 hN39_1.lt
                    clear hb2
                    simp only [List.getElem_toArray, List.getElem_cons_zero, List.getElem_cons_succ, Act.put, List.setIfInBounds_toArray, List.set_cons_zero, List.set_cons_succ]
                    refine wpAnyH_ready (rs := [31]) (by kernel_rfl) (by simp) ?_
                    refine AllReadyH.cons rfl (fun K hK => ?_) ?_
                    · -- quiet 31
                      go_simp
                      refine (hNe _).mono ?_
                      rintro e w' ⟨rfl, rfl⟩
                      (try go_simp)
                      refine hK.out _ _ hS2 (fun _ => ?_)
                      clear hK K
                      simp only [List.getElem_toArray, List.getElem_cons_zero, List.getElem_cons_succ, Act.put, List.setIfInBounds_toArray, List.set_cons_zero, List.set_cons_succ]
                      refine wpAnyH_take (i := 32) (v := ?_) rfl (by kernel_rfl) (by kernel_rfl) (by kernel_rfl) (fun _ _ _ h => h) (Or.inl ⟨by rfl, ?_⟩) hS2 ?_
                      rotate_left
                      · (intro w hSw; (try dsimp only at hSw); go_simp; try with_reducible rfl)
                      simp only [List.getElem_toArray, List.getElem_cons_zero, List.getElem_cons_succ, Act.put, List.setIfInBounds_toArray, List.set_cons_zero, List.set_cons_succ]
                      refine wpAnyH_ready (rs := [36]) (by kernel_rfl) (by simp) ?_
                      refine AllReadyH.cons rfl (fun K hK => ?_) ?_
                      · -- quiet 36
                        go_simp
                        refine (hSp _).mono ?_
                        rintro e w' ⟨rfl, rfl⟩
                        (try go_simp)
                        refine hK.out _ _ hS2 (fun _ => ?_)
                        clear hK K
                        simp only [List.getElem_toArray, List.getElem_cons_zero, List.getElem_cons_succ, Act.put, List.setIfInBounds_toArray, List.set_cons_zero, List.set_cons_succ]
                        refine wpAnyH_take (i := 37) (v := ?_) rfl (by kernel_rfl) (by kernel_rfl) (by kernel_rfl) (fun _ _ _ h => h) (Or.inl ⟨by rfl, ?_⟩) hS2 ?_
                        rotate_left
                        · (intro w hSw; (try dsimp only at hSw); go_simp; try with_reducible rfl)
                        simp only [List.getElem_toArray, List.getElem_cons_zero, List.getElem_cons_succ, Act.put, List.setIfInBounds_toArray, List.set_cons_zero, List.set_cons_succ]
                        refine wpAnyH_take (i := 38) (v := ?_) rfl (by kernel_rfl) (by kernel_rfl) (by kernel_rfl) (fun _ _ _ h => h) (Or.inl ⟨by rfl, ?_⟩) hS2 ?_
                        rotate_left
                        · (intro w hSw; (try dsimp only at hSw); go_simp; try with_reducible rfl)
                        simp only [List.getElem_toArray, List.getElem_cons_zero, List.getElem_cons_succ, Act.put, List.setIfInBounds_toArray, List.set_cons_zero, List.set_cons_succ]
                        refine wpAnyH_ready (rs := [40]) (by kernel_rfl) (by simp) ?_
                        refine AllReadyH.cons rfl (fun K hK => ?_) ?_
                        · -- store 40
                          rw [if_pos (show Region.wanted _ _ = true from by rfl)]
                          refine wp_store_row 25 _ _ rfl g39 (rdA V) rfl rfl 25 _ hN39_2 (by kernel_rfl) rfl (by kernel_rfl) ?_
                          have hB3 := below_setRow hB2 hge39 (rdA V)
                          refine hK.out _ _ (SK.out _ hB3) (fun hS3 => ?_)
                          clear hK K
                          have hN39_3 := hN39_2.setRow (rdA V)
                          generalize v2.setRow g39 (rdA V) = v3 at *
                          simp only [List.getElem_toArray, List.getElem_cons_zero, List.getElem_cons_succ, Act.put, List.setIfInBounds_toArray, List.set_cons_zero, List.set_cons_succ]
                          refine wpAnyH_done (by kernel_rfl) ?_ _
                          go_wp2_with fail
                          go_meet
                          exact ⟨g39, rfl, Nat.lt_of_lt_of_le hzl hge39, hZ1.below hB3 hZ1.lt, hN39_3, hb1.trans (hB3.mono hb1.size)⟩
                        exact AllReadyH.nil
                      exact AllReadyH.nil
                    exact AllReadyH.nil
                  exact AllReadyH.nil
                exact AllReadyH.nil
              refine AllReadyH.cons rfl (fun K hK => ?_) ?_
              · -- alloc 39
                go_simp
                have hB1 := Bl.alloc hB0 (.cells #[.int .u8 0, .int .u8 0, .int .u8 0, .int .u8 0, .int .u8 0, .int .u16 0, .int .u8 0, .int .u8 0, .int .u8 0, .int .u8 0, .int .u8 0, .int .u8 0, .int .u8 0, .int .u8 0, .int .u8 0, .bool false] 25)
                refine hK.out _ _ (SK.out _ hB1) (fun hS1 => ?_)
                clear hK K
                have hN39_1 : Blk (v0.alloc (.cells #[.int .u8 0, .int .u8 0, .int .u8 0, .int .u8 0, .int .u8 0, .int .u16 0, .int .u8 0, .int .u8 0, .int .u8 0, .int .u8 0, .int .u8 0, .int .u8 0, .int .u8 0, .int .u8 0, .int .u8 0, .bool false] 25)) v0.heap.size 25 #[.int .u8 0, .int .u8 0, .int .u8 0, .int .u8 0, .int .u8 0, .int .u16 0, .int .u8 0, .int .u8 0, .int .u8 0, .int .u8 0, .int .u8 0, .int .u8 0, .int .u8 0, .int .u8 0, .int .u8 0, .bool false] := Blk.new _ _ _
                have hge39 := hB0.size
                generalize v0.alloc (.cells #[.int .u8 0, .int .u8 0, .int .u8 0, .int .u8 0, .int .u8 0, .int .u16 0, .int .u8 0, .int .u8 0, .int .u8 0, .int .u8 0, .int .u8 0, .int .u8 0, .int .u8 0, .int .u8 0, .int .u8 0, .bool false] 25) = v1 at *
                obtain ⟨g39, hg39⟩ : ∃ x, v0.heap.size = x := ⟨_, rfl⟩
                rw [hg39] at hN39_1 hge39  ⊢
                clear hg39
                simp only [List.getElem_toArray, List.getElem_cons_zero, List.getElem_cons_succ, Act.put, List.setIfInBounds_toArray, List.set_cons_zero, List.set_cons_succ]
                refine wpAnyH_ready (rs := [23]) (by kernel_rfl) (by simp) ?_
                refine AllReadyH.cons rfl (fun K hK => ?_) ?_
                · -- quiet 23
                  go_simp
                  refine (hNf _).mono ?_
                  rintro e w' ⟨rfl, rfl⟩
                  (try go_simp)
                  refine hK.out _ _ hS1 (fun _ => ?_)
                  clear hK K
                  simp only [List.getElem_toArray, List.getElem_cons_zero, List.getElem_cons_succ, Act.put, List.setIfInBounds_toArray, List.set_cons_zero, List.set_cons_succ]
                  refine wpAnyH_ready (rs := [27]) (by kernel_rfl) (by simp) ?_
                  refine AllReadyH.cons rfl (fun K hK => ?_) ?_
                  · -- call 27
                    go_simp
                    refine (hPg _ hB1).mono ?_
                    rintro e v2 ⟨rfl, hb2⟩
                    (try go_simp)
                    have hB2 := Bl.chain hB1 hb2 (Nat.le_refl _)
                    refine hK.out _ _ (SK.out _ hB2) (fun hS2 => ?_)
                    clear hK K
                    have hN39_2 := hN39_1.below hb2 hN39_1.lt
                    clear hb2
                    simp only [List.getElem_toArray, List.getElem_cons_zero, List.getElem_cons_succ, Act.put, List.setIfInBounds_toArray, List.set_cons_zero, List.set_cons_succ]
                    refine wpAnyH_ready (rs := [31]) (by kernel_rfl) (by simp) ?_
                    refine AllReadyH.cons rfl (fun K hK => ?_) ?_
                    · -- quiet 31
                      go_simp
                      refine (hNe _).mono ?_
                      rintro e w' ⟨rfl, rfl⟩
                      (try go_simp)
                      refine hK.out _ _ hS2 (fun _ => ?_)
                      clear hK K
                      simp only [List.getElem_toArray, List.getElem_cons_zero, List.getElem_cons_succ, Act.put, List.setIfInBounds_toArray, List.set_cons_zero, List.set_cons_succ]
                      refine wpAnyH_take (i := 32) (v := ?_) rfl (by kernel_rfl) (by kernel_rfl) (by kernel_rfl) (fun _ _ _ h => h) (Or.inl ⟨by rfl, ?_⟩) hS2 ?_
                      rotate_left
                      · (intro w hSw; (try dsimp only at hSw); go_simp; try with_reducible rfl)
                      simp only [List.getElem_toArray, List.getElem_cons_zero, List.getElem_cons_succ, Act.put, List.setIfInBounds_toArray, List.set_cons_zero, List.set_cons_succ]
                      refine wpAnyH_ready (rs := [36]) (by kernel_rfl) (by simp) ?_
                      refine AllReadyH.cons rfl (fun K hK => ?_) ?_
                      · -- quiet 36
                        go_simp
                        refine (hSp _).mono ?_
                        rintro e w' ⟨rfl, rfl⟩
                        (try go_simp)
                        refine hK.out _ _ hS2 (fun _ => ?_)
                        clear hK K
                        simp only [List.getElem_toArray, List.getElem_cons_zero, List.getElem_cons_succ, Act.put, List.setIfInBounds_toArray, List.set_cons_zero, List.set_cons_succ]
                        refine wpAnyH_take (i := 37) (v := ?_) rfl (by kernel_rfl) (by kernel_rfl) (by kernel_rfl) (fun _ _ _ h => h) (Or.inl ⟨by rfl, ?_⟩) hS2 ?_
                        rotate_left
                        · (intro w hSw; (try dsimp only at hSw); go_simp; try with_reducible rfl)
                        simp only [List.getElem_toArray, List.getElem_cons_zero, List.getElem_cons_succ, Act.put, List.setIfInBounds_toArray, List.set_cons_zero, List.set_cons_succ]
                        refine wpAnyH_take (i := 38) (v := ?_) rfl (by kernel_rfl) (by kernel_rfl) (by kernel_rfl) (fun _ _ _ h => h) (Or.inl ⟨by rfl, ?_⟩) hS2 ?_
                        rotate_left
                        · (intro w hSw; (try dsimp only at hSw); go_simp; try with_reducible rfl)
                        simp only [List.getElem_toArray, List.getElem_cons_zero, List.getElem_cons_succ, Act.put, List.setIfInBounds_toArray, List.set_cons_zero, List.set_cons_succ]
                        refine wpAnyH_ready (rs := [40]) (by kernel_rfl) (by simp) ?_
                        refine AllReadyH.cons rfl (fun K hK => ?_) ?_
                        · -- store 40
                          rw [if_pos (show Region.wanted _ _ = true from by rfl)]
                          refine wp_store_row 25 _ _ rfl g39 (rdA V) rfl rfl 25 _ hN39_2 (by kernel_rfl) rfl (by kernel_rfl) ?_
                          have hB3 := below_setRow hB2 hge39 (rdA V)
                          refine hK.out _ _ (SK.out _ hB3) (fun hS3 => ?_)
                          clear hK K
                          have hN39_3 := hN39_2.setRow (rdA V)
                          generalize v2.setRow g39 (rdA V) = v3 at *
                          simp only [List.getElem_toArray, List.getElem_cons_zero, List.getElem_cons_succ, Act.put, List.setIfInBounds_toArray, List.set_cons_zero, List.set_cons_succ]
                          refine wpAnyH_done (by kernel_rfl) ?_ _
                          go_wp2_with fail
                          go_meet
                          exact ⟨g39, rfl, Nat.lt_of_lt_of_le hzl hge39, hZ1.below hB3 hZ1.lt, hN39_3, hb1.trans (hB3.mono hb1.size)⟩
                        exact AllReadyH.nil
                      exact AllReadyH.nil
                    exact AllReadyH.nil
                  exact AllReadyH.nil
                exact AllReadyH.nil
              exact AllReadyH.nil
            refine AllReadyH.cons rfl (fun K hK => ?_) ?_
            · -- alloc 39
              go_simp
              have hB1 := Bl.alloc hB0 (.cells #[.int .u8 0, .int .u8 0, .int .u8 0, .int .u8 0, .int .u8 0, .int .u16 0, .int .u8 0, .int .u8 0, .int .u8 0, .int .u8 0, .int .u8 0, .int .u8 0, .int .u8 0, .int .u8 0, .int .u8 0, .bool false] 25)
              refine hK.out _ _ (SK.out _ hB1) (fun hS1 => ?_)
              clear hK K
              have hN39_1 : Blk (v0.alloc (.cells #[.int .u8 0, .int .u8 0, .int .u8 0, .int .u8 0, .int .u8 0, .int .u16 0, .int .u8 0, .int .u8 0, .int .u8 0, .int .u8 0, .int .u8 0, .int .u8 0, .int .u8 0, .int .u8 0, .int .u8 0, .bool false] 25)) v0.heap.size 25 #[.int .u8 0, .int .u8 0, .int .u8 0, .int .u8 0, .int .u8 0, .int .u16 0, .int .u8 0, .int .u8 0, .int .u8 0, .int .u8 0, .int .u8 0, .int .u8 0, .int .u8 0, .int .u8 0, .int .u8 0, .bool false] := Blk.new _ _ _
              have hge39 := hB0.size
              generalize v0.alloc (.cells #[.int .u8 0, .int .u8 0, .int .u8 0, .int .u8 0, .int .u8 0, .int .u16 0, .int .u8 0, .int .u8 0, .int .u8 0, .int .u8 0, .int .u8 0, .int .u8 0, .int .u8 0, .int .u8 0, .int .u8 0, .bool false] 25) = v1 at *
              obtain ⟨g39, hg39⟩ : ∃ x, v0.heap.size = x := ⟨_, rfl⟩
              rw [hg39] at hN39_1 hge39  ⊢
              clear hg39
              simp only [List.getElem_toArray, List.getElem_cons_zero, List.getElem_cons_succ, Act.put, List.setIfInBounds_toArray, List.set_cons_zero, List.set_cons_succ]
              refine wpAnyH_ready (rs := [18]) (by kernel_rfl) (by simp) ?_
              refine AllReadyH.cons rfl (fun K hK => ?_) ?_
              · -- quiet 18
                go_simp
                refine (hNd _).mono ?_
                rintro e w' ⟨rfl, rfl⟩
                (try go_simp)
                refine hK.out _ _ hS1 (fun _ => ?_)
                clear hK K
                simp only [List.getElem_toArray, List.getElem_cons_zero, List.getElem_cons_succ, Act.put, List.setIfInBounds_toArray, List.set_cons_zero, List.set_cons_succ]
                refine wpAnyH_take (i := 19) (v := ?_) rfl (by kernel_rfl) (by kernel_rfl) (by kernel_rfl) (fun _ _ _ h => h) (Or.inl ⟨by rfl, ?_⟩) hS1 ?_
                rotate_left
                · (intro w hSw; (try dsimp only at hSw); go_simp; try with_reducible rfl)
                simp only [List.getElem_toArray, List.getElem_cons_zero, List.getElem_cons_succ, Act.put, List.setIfInBounds_toArray, List.set_cons_zero, List.set_cons_succ]
                refine wpAnyH_ready (rs := [23]) (by kernel_rfl) (by simp) ?_
                refine AllReadyH.cons rfl (fun K hK => ?_) ?_
                · -- quiet 23
                  go_simp
                  refine (hNf _).mono ?_
                  rintro e w' ⟨rfl, rfl⟩
                  (try go_simp)
                  refine hK.out _ _ hS1 (fun _ => ?_)
                  clear hK K
                  simp only [List.getElem_toArray, List.getElem_cons_zero, List.getElem_cons_succ, Act.put, List.setIfInBounds_toArray, List.set_cons_zero, List.set_cons_succ]
                  refine wpAnyH_ready (rs := [27]) (by kernel_rfl) (by simp) ?_
                  refine AllReadyH.cons rfl (fun K hK => ?_) ?_
                  · -- call 27
                    go_simp
                    refine (hPg _ hB1).mono ?_
                    rintro e v2 ⟨rfl, hb2⟩
                    (try go_simp)
                    have hB2 := Bl.chain hB1 hb2 (Nat.le_refl _)
                    refine hK.out _ _ (SK.out _ hB2) (fun hS2 => ?_)
                    clear hK K
                    have hN39_2 := hN39_1.below hb2 hN39_1.lt
                    clear hb2
                    simp only [List.getElem_toArray, List.getElem_cons_zero, List.getElem_cons_succ, Act.put, List.setIfInBounds_toArray, List.set_cons_zero, List.set_cons_succ]
                    refine wpAnyH_ready (rs := [31]) (by kernel_rfl) (by simp) ?_
                    refine AllReadyH.cons rfl (fun K hK => ?_) ?_
                    · -- quiet 31
                      go_simp
                      refine (hNe _).mono ?_
                      rintro e w' ⟨rfl, rfl⟩
                      (try go_simp)
                      refine hK.out _ _ hS2 (fun _ => ?_)
                      clear hK K
                      simp only [List.getElem_toArray, List.getElem_cons_zero, List.getElem_cons_succ, Act.put, List.setIfInBounds_toArray, List.set_cons_zero, List.set_cons_succ]
                      refine wpAnyH_take (i := 32) (v := ?_) rfl (by kernel_rfl) (by kernel_rfl) (by kernel_rfl) (fun _ _ _ h => h) (Or.inl ⟨by rfl, ?_⟩) hS2 ?_
                      rotate_left
                      · (intro w hSw; (try dsimp only at hSw); go_simp; try with_reducible rfl)
                      simp only [List.getElem_toArray, List.getElem_cons_zero, List.getElem_cons_succ, Act.put, List.setIfInBounds_toArray, List.set_cons_zero, List.set_cons_succ]
                      refine wpAnyH_ready (rs := [36]) (by kernel_rfl) (by simp) ?_
                      refine AllReadyH.cons rfl (fun K hK => ?_) ?_
                      · -- quiet 36
                        go_simp
                        refine (hSp _).mono ?_
                        rintro e w' ⟨rfl, rfl⟩
                        (try go_simp)
                        refine hK.out _ _ hS2 (fun _ => ?_)
                        clear hK K
                        simp only [List.getElem_toArray, List.getElem_cons_zero, List.getElem_cons_succ, Act.put, List.setIfInBounds_toArray, List.set_cons_zero, List.set_cons_succ]
                        refine wpAnyH_take (i := 37) (v := ?_) rfl (by kernel_rfl) (by kernel_rfl) (by kernel_rfl) (fun _ _ _ h => h) (Or.inl ⟨by rfl, ?_⟩) hS2 ?_
                        rotate_left
                        · (intro w hSw; (try dsimp only at hSw); go_simp; try with_reducible rfl)
                        simp only [List.getElem_toArray, List.getElem_cons_zero, List.getElem_cons_succ, Act.put, List.setIfInBounds_toArray, List.set_cons_zero, List.set_cons_succ]
                        refine wpAnyH_take (i := 38) (v := ?_) rfl (by kernel_rfl) (by kernel_rfl) (by kernel_rfl) (fun _ _ _ h => h) (Or.inl ⟨by rfl, ?_⟩) hS2 ?_
                        rotate_left
                        · (intro w hSw; (try dsimp only at hSw); go_simp; try with_reducible rfl)
                        simp only [List.getElem_toArray, List.getElem_cons_zero, List.getElem_cons_succ, Act.put, List.setIfInBounds_toArray, List.set_cons_zero, List.set_cons_succ]
                        refine wpAnyH_ready (rs := [40]) (by kernel_rfl) (by simp) ?_
                        refine AllReadyH.cons rfl (fun K hK => ?_) ?_
                        · -- store 40
                          rw [if_pos (show Region.wanted _ _ = true from by rfl)]
                          refine wp_store_row 25 _ _ rfl g39 (rdA V) rfl rfl 25 _ hN39_2 (by kernel_rfl) rfl (by kernel_rfl) ?_
                          have hB3 := below_setRow hB2 hge39 (rdA V)
                          refine hK.out _ _ (SK.out _ hB3) (fun hS3 => ?_)
                          clear hK K
                          have hN39_3 := hN39_2.setRow (rdA V)
                          generalize v2.setRow g39 (rdA V) = v3 at *
                          simp only [List.getElem_toArray, List.getElem_cons_zero, List.getElem_cons_succ, Act.put, List.setIfInBounds_toArray, List.set_cons_zero, List.set_cons_succ]
                          refine wpAnyH_done (by kernel_rfl) ?_ _
                          go_wp2_with fail
                          go_meet
                          exact ⟨g39, rfl, Nat.lt_of_lt_of_le hzl hge39, hZ1.below hB3 hZ1.lt, hN39_3, hb1.trans (hB3.mono hb1.size)⟩
                        exact AllReadyH.nil
                      exact AllReadyH.nil
                    exact AllReadyH.nil
                  exact AllReadyH.nil
                exact AllReadyH.nil
              exact AllReadyH.nil
            exact AllReadyH.nil
          refine AllReadyH.cons rfl (fun K hK => ?_) ?_
          · -- alloc 39
            go_simp
            have hB1 := Bl.alloc hB0 (.cells #[.int .u8 0, .int .u8 0, .int .u8 0, .int .u8 0, .int .u8 0, .int .u16 0, .int .u8 0, .int .u8 0, .int .u8 0, .int .u8 0, .int .u8 0, .int .u8 0, .int .u8 0, .int .u8 0, .int .u8 0, .bool false] 25)
            refine hK.out _ _ (SK.out _ hB1) (fun hS1 => ?_)
            clear hK K
            have hN39_1 : Blk (v0.alloc (.cells #[.int .u8 0, .int .u8 0, .int .u8 0, .int .u8 0, .int .u8 0, .int .u16 0, .int .u8 0, .int .u8 0, .int .u8 0, .int .u8 0, .int .u8 0, .int .u8 0, .int .u8 0, .int .u8 0, .int .u8 0, .bool false] 25)) v0.heap.size 25 #[.int .u8 0, .int .u8 0, .int .u8 0, .int .u8 0, .int .u8 0, .int .u16 0, .int .u8 0, .int .u8 0, .int .u8 0, .int .u8 0, .int .u8 0, .int .u8 0, .int .u8 0, .int .u8 0, .int .u8 0, .bool false] := Blk.new _ _ _
            have hge39 := hB0.size
            generalize v0.alloc (.cells #[.int .u8 0, .int .u8 0, .int .u8 0, .int .u8 0, .int .u8 0, .int .u16 0, .int .u8 0, .int .u8 0, .int .u8 0, .int .u8 0, .int .u8 0, .int .u8 0, .int .u8 0, .int .u8 0, .int .u8 0, .bool false] 25) = v1 at *
            obtain ⟨g39, hg39⟩ : ∃ x, v0.heap.size = x := ⟨_, rfl⟩
            rw [hg39] at hN39_1 hge39  ⊢
            clear hg39
            simp only [List.getElem_toArray, List.getElem_cons_zero, List.getElem_cons_succ, Act.put, List.setIfInBounds_toArray, List.set_cons_zero, List.set_cons_succ]
            refine wpAnyH_ready (rs := [13]) (by kernel_rfl) (by simp) ?_
            refine AllReadyH.cons rfl (fun K hK => ?_) ?_
            · -- quiet 13
              go_simp
              refine (hNc _).mono ?_
              rintro e w' ⟨rfl, rfl⟩
              (try go_simp)
              refine hK.out _ _ hS1 (fun _ => ?_)
              clear hK K
              simp only [List.getElem_toArray, List.getElem_cons_zero, List.getElem_cons_succ, Act.put, List.setIfInBounds_toArray, List.set_cons_zero, List.set_cons_succ]
              refine wpAnyH_take (i := 14) (v := ?_) rfl (by kernel_rfl) (by kernel_rfl) (by kernel_rfl) (fun _ _ _ h => h) (Or.inl ⟨by rfl, ?_⟩) hS1 ?_
              rotate_left
              · (intro w hSw; (try dsimp only at hSw); go_simp; try with_reducible rfl)
              simp only [List.getElem_toArray, List.getElem_cons_zero, List.getElem_cons_succ, Act.put, List.setIfInBounds_toArray, List.set_cons_zero, List.set_cons_succ]
              refine wpAnyH_ready (rs := [18]) (by kernel_rfl) (by simp) ?_
              refine AllReadyH.cons rfl (fun K hK => ?_) ?_
              · -- quiet 18
                go_simp
                refine (hNd _).mono ?_
                rintro e w' ⟨rfl, rfl⟩
                (try go_simp)
                refine hK.out _ _ hS1 (fun _ => ?_)
                clear hK K
                simp only [List.getElem_toArray, List.getElem_cons_zero, List.getElem_cons_succ, Act.put, List.setIfInBounds_toArray, List.set_cons_zero, List.set_cons_succ]
                refine wpAnyH_take (i := 19) (v := ?_) rfl (by kernel_rfl) (by kernel_rfl) (by kernel_rfl) (fun _ _ _ h => h) (Or.inl ⟨by rfl, ?_⟩) hS1 ?_
                rotate_left
                · (intro w hSw; (try dsimp only at hSw); go_simp; try with_reducible rfl)
                simp only [List.getElem_toArray, List.getElem_cons_zero, List.getElem_cons_succ, Act.put, List.setIfInBounds_toArray, List.set_cons_zero, List.set_cons_succ]
                refine wpAnyH_ready (rs := [23]) (by kernel_rfl) (by simp) ?_
                refine AllReadyH.cons rfl (fun K hK => ?_) ?_
                · -- quiet 23
                  go_simp
                  refine (hNf _).mono ?_
                  rintro e w' ⟨rfl, rfl⟩
                  (try go_simp)
                  refine hK.out _ _ hS1 (fun _ => ?_)
                  clear hK K
                  simp only [List.getElem_toArray, List.getElem_cons_zero, List.getElem_cons_succ, Act.put, List.setIfInBounds_toArray, List.set_cons_zero, List.set_cons_succ]
                  refine wpAnyH_ready (rs := [27]) (by kernel_rfl) (by simp) ?_
                  refine AllReadyH.cons rfl (fun K hK => ?_) ?_
                  · -- call 27
                    go_simp
                    refine (hPg _ hB1).mono ?_
                    rintro e v2 ⟨rfl, hb2⟩
                    (try go_simp)
                    have hB2 := Bl.chain hB1 hb2 (Nat.le_refl _)
                    refine hK.out _ _ (SK.out _ hB2) (fun hS2 => ?_)
                    clear hK K
                    have hN39_2 := hN39_1.below hb2 hN39_1.lt
                    clear hb2
                    simp only [List.getElem_toArray, List.getElem_cons_zero, List.getElem_cons_succ, Act.put, List.setIfInBounds_toArray, List.set_cons_zero, List.set_cons_succ]
                    refine wpAnyH_ready (rs := [31]) (by kernel_rfl) (by simp) ?_
                    refine AllReadyH.cons rfl (fun K hK => ?_) ?_
                    · -- quiet 31
                      go_simp
                      refine (hNe _).mono ?_
                      rintro e w' ⟨rfl, rfl⟩
                      (try go_simp)
                      refine hK.out _ _ hS2 (fun _ => ?_)
                      clear hK K
                      simp only [List.getElem_toArray, List.getElem_cons_zero, List.getElem_cons_succ, Act.put, List.setIfInBounds_toArray, List.set_cons_zero, List.set_cons_succ]
                      refine wpAnyH_take (i := 32) (v := ?_) rfl (by kernel_rfl) (by kernel_rfl) (by kernel_rfl) (fun _ _ _ h => h) (Or.inl ⟨by rfl, ?_⟩) hS2 ?_
                      rotate_left
                      · (intro w hSw; (try dsimp only at hSw); go_simp; try with_reducible rfl)
                      simp only [List.getElem_toArray, List.getElem_cons_zero, List.getElem_cons_succ, Act.put, List.setIfInBounds_toArray, List.set_cons_zero, List.set_cons_succ]
                      refine wpAnyH_ready (rs := [36]) (by kernel_rfl) (by simp) ?_
                      refine AllReadyH.cons rfl (fun K hK => ?_) ?_
                      · -- quiet 36
                        go_simp
                        refine (hSp _).mono ?_
                        rintro e w' ⟨rfl, rfl⟩
                        (try go_simp)
                        refine hK.out _ _ hS2 (fun _ => ?_)
                        clear hK K
                        simp only [List.getElem_toArray, List.getElem_cons_zero, List.getElem_cons_succ, Act.put, List.setIfInBounds_toArray, List.set_cons_zero, List.set_cons_succ]
                        refine wpAnyH_take (i := 37) (v := ?_) rfl (by kernel_rfl) (by kernel_rfl) (by kernel_rfl) (fun _ _ _ h => h) (Or.inl ⟨by rfl, ?_⟩) hS2 ?_
                        rotate_left
                        · (intro w hSw; (try dsimp only at hSw); go_simp; try with_reducible rfl)
                        simp only [List.getElem_toArray, List.getElem_cons_zero, List.getElem_cons_succ, Act.put, List.setIfInBounds_toArray, List.set_cons_zero, List.set_cons_succ]
                        refine wpAnyH_take (i := 38) (v := ?_) rfl (by kernel_rfl) (by kernel_rfl) (by kernel_rfl) (fun _ _ _ h => h) (Or.inl ⟨by rfl, ?_⟩) hS2 ?_
                        rotate_left
                        · (intro w hSw; (try dsimp only at hSw); go_simp; try with_reducible rfl)
                        simp only [List.getElem_toArray, List.getElem_cons_zero, List.getElem_cons_succ, Act.put, List.setIfInBounds_toArray, List.set_cons_zero, List.set_cons_succ]
                        refine wpAnyH_ready (rs := [40]) (by kernel_rfl) (by simp) ?_
                        refine AllReadyH.cons rfl (fun K hK => ?_) ?_
                        · -- store 40
                          rw [if_pos (show Region.wanted _ _ = true from by rfl)]
                          refine wp_store_row 25 _ _ rfl g39 (rdA V) rfl rfl 25 _ hN39_2 (by kernel_rfl) rfl (by kernel_rfl) ?_
                          have hB3 := below_setRow hB2 hge39 (rdA V)
                          refine hK.out _ _ (SK.out _ hB3) (fun hS3 => ?_)
                          clear hK K
                          have hN39_3 := hN39_2.setRow (rdA V)
                          generalize v2.setRow g39 (rdA V) = v3 at *
                          simp only [List.getElem_toArray, List.getElem_cons_zero, List.getElem_cons_succ, Act.put, List.setIfInBounds_toArray, List.set_cons_zero, List.set_cons_succ]
                          refine wpAnyH_done (by kernel_rfl) ?_ _
                          go_wp2_with fail
                          go_meet
                          exact ⟨g39, rfl, Nat.lt_of_lt_of_le hzl hge39, hZ1.below hB3 hZ1.lt, hN39_3, hb1.trans (hB3.mono hb1.size)⟩
                        exact AllReadyH.nil
                      exact AllReadyH.nil
                    exact AllReadyH.nil
                  exact AllReadyH.nil
                exact AllReadyH.nil
              exact AllReadyH.nil
            exact AllReadyH.nil
          exact AllReadyH.nil
        refine AllReadyH.cons rfl (fun K hK => ?_) ?_
        · -- alloc 39
          go_simp
          have hB1 := Bl.alloc hB0 (.cells #[.int .u8 0, .int .u8 0, .int .u8 0, .int .u8 0, .int .u8 0, .int .u16 0, .int .u8 0, .int .u8 0, .int .u8 0, .int .u8 0, .int .u8 0, .int .u8 0, .int .u8 0, .int .u8 0, .int .u8 0, .bool false] 25)
          refine hK.out _ _ (SK.out _ hB1) (fun hS1 => ?_)
          clear hK K
          have hN39_1 : Blk (v0.alloc (.cells #[.int .u8 0, .int .u8 0, .int .u8 0, .int .u8 0, .int .u8 0, .int .u16 0, .int .u8 0, .int .u8 0, .int .u8 0, .int .u8 0, .int .u8 0, .int .u8 0, .int .u8 0, .int .u8 0, .int .u8 0, .bool false] 25)) v0.heap.size 25 #[.int .u8 0, .int .u8 0, .int .u8 0, .int .u8 0, .int .u8 0, .int .u16 0, .int .u8 0, .int .u8 0, .int .u8 0, .int .u8 0, .int .u8 0, .int .u8 0, .int .u8 0, .int .u8 0, .int .u8 0, .bool false] := Blk.new _ _ _
          have hge39 := hB0.size
          generalize v0.alloc (.cells #[.int .u8 0, .int .u8 0, .int .u8 0, .int .u8 0, .int .u8 0, .int .u16 0, .int .u8 0, .int .u8 0, .int .u8 0, .int .u8 0, .int .u8 0, .int .u8 0, .int .u8 0, .int .u8 0, .int .u8 0, .bool false] 25) = v1 at *
          obtain ⟨g39, hg39⟩ : ∃ x, v0.heap.size = x := ⟨_, rfl⟩
          rw [hg39] at hN39_1 hge39  ⊢
          clear hg39
          simp only [List.getElem_toArray, List.getElem_cons_zero, List.getElem_cons_succ, Act.put, List.setIfInBounds_toArray, List.set_cons_zero, List.set_cons_succ]
          refine wpAnyH_ready (rs := [8]) (by kernel_rfl) (by simp) ?_
          refine AllReadyH.cons rfl (fun K hK => ?_) ?_
          · -- quiet 8
            go_simp
            refine (hNb _).mono ?_
            rintro e w' ⟨rfl, rfl⟩
            (try go_simp)
            refine hK.out _ _ hS1 (fun _ => ?_)
            clear hK K
            simp only [List.getElem_toArray, List.getElem_cons_zero, List.getElem_cons_succ, Act.put, List.setIfInBounds_toArray, List.set_cons_zero, List.set_cons_succ]
            refine wpAnyH_take (i := 9) (v := ?_) rfl (by kernel_rfl) (by kernel_rfl) (by kernel_rfl) (fun _ _ _ h => h) (Or.inl ⟨by rfl, ?_⟩) hS1 ?_
            rotate_left
            · (intro w hSw; (try dsimp only at hSw); go_simp; try with_reducible rfl)
            simp only [List.getElem_toArray, List.getElem_cons_zero, List.getElem_cons_succ, Act.put, List.setIfInBounds_toArray, List.set_cons_zero, List.set_cons_succ]
            refine wpAnyH_ready (rs := [13]) (by kernel_rfl) (by simp) ?_
            refine AllReadyH.cons rfl (fun K hK => ?_) ?_
            · -- quiet 13
              go_simp
              refine (hNc _).mono ?_
              rintro e w' ⟨rfl, rfl⟩
              (try go_simp)
              refine hK.out _ _ hS1 (fun _ => ?_)
              clear hK K
              simp only [List.getElem_toArray, List.getElem_cons_zero, List.getElem_cons_succ, Act.put, List.setIfInBounds_toArray, List.set_cons_zero, List.set_cons_succ]
              refine wpAnyH_take (i := 14) (v := ?_) rfl (by kernel_rfl) (by kernel_rfl) (by kernel_rfl) (fun _ _ _ h => h) (Or.inl ⟨by rfl, ?_⟩) hS1 ?_
              rotate_left
              · (intro w hSw; (try dsimp only at hSw); go_simp; try with_reducible rfl)
              simp only [List.getElem_toArray, List.getElem_cons_zero, List.getElem_cons_succ, Act.put, List.setIfInBounds_toArray, List.set_cons_zero, List.set_cons_succ]
              refine wpAnyH_ready (rs := [18]) (by kernel_rfl) (by simp) ?_
              refine AllReadyH.cons rfl (fun K hK => ?_) ?_
              · -- quiet 18
                go_simp
                refine (hNd _).mono ?_
                rintro e w' ⟨rfl, rfl⟩
                (try go_simp)
                refine hK.out _ _ hS1 (fun _ => ?_)
                clear hK K
                simp only [List.getElem_toArray, List.getElem_cons_zero, List.getElem_cons_succ, Act.put, List.setIfInBounds_toArray, List.set_cons_zero, List.set_cons_succ]
                refine wpAnyH_take (i := 19) (v := ?_) rfl (by kernel_rfl) (by kernel_rfl) (by kernel_rfl) (fun _ _ _ h => h) (Or.inl ⟨by rfl, ?_⟩) hS1 ?_
                rotate_left
                · (intro w hSw; (try dsimp only at hSw); go_simp; try with_reducible rfl)
                simp only [List.getElem_toArray, List.getElem_cons_zero, List.getElem_cons_succ, Act.put, List.setIfInBounds_toArray, List.set_cons_zero, List.set_cons_succ]
                refine wpAnyH_ready (rs := [23]) (by kernel_rfl) (by simp) ?_
                refine AllReadyH.cons rfl (fun K hK => ?_) ?_
                · -- quiet 23
                  go_simp
                  refine (hNf _).mono ?_
                  rintro e w' ⟨rfl, rfl⟩
                  (try go_simp)
                  refine hK.out _ _ hS1 (fun _ => ?_)
                  clear hK K
                  simp only [List.getElem_toArray, List.getElem_cons_zero, List.getElem_cons_succ, Act.put, List.setIfInBounds_toArray, List.set_cons_zero, List.set_cons_succ]
                  refine wpAnyH_ready (rs := [27]) (by kernel_rfl) (by simp) ?_
                  refine AllReadyH.cons rfl (fun K hK => ?_) ?_
                  · -- call 27
                    go_simp
                    refine (hPg _ hB1).mono ?_
                    rintro e v2 ⟨rfl, hb2⟩
                    (try go_simp)
                    have hB2 := Bl.chain hB1 hb2 (Nat.le_refl _)
                    refine hK.out _ _ (SK.out _ hB2) (fun hS2 => ?_)
                    clear hK K
                    have hN39_2 := hN39_1.below hb2 hN39_1.lt
                    clear hb2
                    simp only [List.getElem_toArray, List.getElem_cons_zero, List.getElem_cons_succ, Act.put, List.setIfInBounds_toArray, List.set_cons_zero, List.set_cons_succ]
                    refine wpAnyH_ready (rs := [31]) (by kernel_rfl) (by simp) ?_
                    refine AllReadyH.cons rfl (fun K hK => ?_) ?_
                    · -- quiet 31
                      go_simp
                      refine (hNe _).mono ?_
                      rintro e w' ⟨rfl, rfl⟩
                      (try go_simp)
                      refine hK.out _ _ hS2 (fun _ => ?_)
                      clear hK K
                      simp only [List.getElem_toArray, List.getElem_cons_zero, List.getElem_cons_succ, Act.put, List.setIfInBounds_toArray, List.set_cons_zero, List.set_cons_succ]
                      refine wpAnyH_take (i := 32) (v := ?_) rfl (by kernel_rfl) (by kernel_rfl) (by kernel_rfl) (fun _ _ _ h => h) (Or.inl ⟨by rfl, ?_⟩) hS2 ?_
                      rotate_left
                      · (intro w hSw; (try dsimp only at hSw); go_simp; try with_reducible rfl)
                      simp only [List.getElem_toArray, List.getElem_cons_zero, List.getElem_cons_succ, Act.put, List.setIfInBounds_toArray, List.set_cons_zero, List.set_cons_succ]
                      refine wpAnyH_ready (rs := [36]) (by kernel_rfl) (by simp) ?_
                      refine AllReadyH.cons rfl (fun K hK => ?_) ?_
                      · -- quiet 36
                        go_simp
                        refine (hSp _).mono ?_
                        rintro e w' ⟨rfl, rfl⟩
                        (try go_simp)
                        refine hK.out _ _ hS2 (fun _ => ?_)
                        clear hK K
                        simp only [List.getElem_toArray, List.getElem_cons_zero, List.getElem_cons_succ, Act.put, List.setIfInBounds_toArray, List.set_cons_zero, List.set_cons_succ]
                        refine wpAnyH_take (i := 37) (v := ?_) rfl (by kernel_rfl) (by kernel_rfl) (by kernel_rfl) (fun _ _ _ h => h) (Or.inl ⟨by rfl, ?_⟩) hS2 ?_
                        rotate_left
                        · (intro w hSw; (try dsimp only at hSw); go_simp; try with_reducible rfl)
                        simp only [List.getElem_toArray, List.getElem_cons_zero, List.getElem_cons_succ, Act.put, List.setIfInBounds_toArray, List.set_cons_zero, List.set_cons_succ]
                        refine wpAnyH_take (i := 38) (v := ?_) rfl (by kernel_rfl) (by kernel_rfl) (by kernel_rfl) (fun _ _ _ h => h) (Or.inl ⟨by rfl, ?_⟩) hS2 ?_
                        rotate_left
                        · (intro w hSw; (try dsimp only at hSw); go_simp; try with_reducible rfl)
                        simp only [List.getElem_toArray, List.getElem_cons_zero, List.getElem_cons_succ, Act.put, List.setIfInBounds_toArray, List.set_cons_zero, List.set_cons_succ]
                        refine wpAnyH_ready (rs := [40]) (by kernel_rfl) (by simp) ?_
                        refine AllReadyH.cons rfl (fun K hK => ?_) ?_
                        · -- store 40
                          rw [if_pos (show Region.wanted _ _ = true from by rfl)]
                          refine wp_store_row 25 _ _ rfl g39 (rdA V) rfl rfl 25 _ hN39_2 (by kernel_rfl) rfl (by kernel_rfl) ?_
                          have hB3 := below_setRow hB2 hge39 (rdA V)
                          refine hK.out _ _ (SK.out _ hB3) (fun hS3 => ?_)
                          clear hK K
                          have hN39_3 := hN39_2.setRow (rdA V)
                          generalize v2.setRow g39 (rdA V) = v3 at *
                          simp only [List.getElem_toArray, List.getElem_cons_zero, List.getElem_cons_succ, Act.put, List.setIfInBounds_toArray, List.set_cons_zero, List.set_cons_succ]
                          refine wpAnyH_done (by kernel_rfl) ?_ _
                          go_wp2_with fail
                          go_meet
                          exact ⟨g39, rfl, Nat.lt_of_lt_of_le hzl hge39, hZ1.below hB3 hZ1.lt, hN39_3, hb1.trans (hB3.mono hb1.size)⟩
                        exact AllReadyH.nil
                      exact AllReadyH.nil
                    exact AllReadyH.nil
                  exact AllReadyH.nil
                exact AllReadyH.nil
              exact AllReadyH.nil
            exact AllReadyH.nil
          exact AllReadyH.nil
        exact AllReadyH.nil
      refine AllReadyH.cons rfl (fun K hK => ?_) ?_
      · -- alloc 39
        go_simp
        have hB1 := Bl.alloc hB0 (.cells #[.int .u8 0, .int .u8 0, .int .u8 0, .int .u8 0, .int .u8 0, .int .u16 0, .int .u8 0, .int .u8 0, .int .u8 0, .int .u8 0, .int .u8 0, .int .u8 0, .int .u8 0, .int .u8 0, .int .u8 0, .bool false] 25)
        refine hK.out _ _ (SK.out _ hB1) (fun hS1 => ?_)
        clear hK K
        have hN39_1 : Blk (v0.alloc (.cells #[.int .u8 0, .int .u8 0, .int .u8 0, .int .u8 0, .int .u8 0, .int .u16 0, .int .u8 0, .int .u8 0, .int .u8 0, .int .u8 0, .int .u8 0, .int .u8 0, .int .u8 0, .int .u8 0, .int .u8 0, .bool false] 25)) v0.heap.size 25 #[.int .u8 0, .int .u8 0, .int .u8 0, .int .u8 0, .int .u8 0, .int .u16 0, .int .u8 0, .int .u8 0, .int .u8 0, .int .u8 0, .int .u8 0, .int .u8 0, .int .u8 0, .int .u8 0, .int .u8 0, .bool false] := Blk.new _ _ _
        have hge39 := hB0.size
        generalize v0.alloc (.cells #[.int .u8 0, .int .u8 0, .int .u8 0, .int .u8 0, .int .u8 0, .int .u16 0, .int .u8 0, .int .u8 0, .int .u8 0, .int .u8 0, .int .u8 0, .int .u8 0, .int .u8 0, .int .u8 0, .int .u8 0, .bool false] 25) = v1 at *
        obtain ⟨g39, hg39⟩ : ∃ x, v0.heap.size = x := ⟨_, rfl⟩
        rw [hg39] at hN39_1 hge39  ⊢
        clear hg39
        simp only [List.getElem_toArray, List.getElem_cons_zero, List.getElem_cons_succ, Act.put, List.setIfInBounds_toArray, List.set_cons_zero, List.set_cons_succ]
        refine wpAnyH_ready (rs := [3]) (by kernel_rfl) (by simp) ?_
        refine AllReadyH.cons rfl (fun K hK => ?_) ?_
        · -- quiet 3
          go_simp
          refine (hNa _).mono ?_
          rintro e w' ⟨rfl, rfl⟩
          (try go_simp)
          refine hK.out _ _ hS1 (fun _ => ?_)
          clear hK K
          simp only [List.getElem_toArray, List.getElem_cons_zero, List.getElem_cons_succ, Act.put, List.setIfInBounds_toArray, List.set_cons_zero, List.set_cons_succ]
          refine wpAnyH_take (i := 4) (v := ?_) rfl (by kernel_rfl) (by kernel_rfl) (by kernel_rfl) (fun _ _ _ h => h) (Or.inl ⟨by rfl, ?_⟩) hS1 ?_
          rotate_left
          · (intro w hSw; (try dsimp only at hSw); go_simp; try with_reducible rfl)
          simp only [List.getElem_toArray, List.getElem_cons_zero, List.getElem_cons_succ, Act.put, List.setIfInBounds_toArray, List.set_cons_zero, List.set_cons_succ]
          refine wpAnyH_ready (rs := [8]) (by kernel_rfl) (by simp) ?_
          refine AllReadyH.cons rfl (fun K hK => ?_) ?_
          · -- quiet 8
            go_simp
            refine (hNb _).mono ?_
            rintro e w' ⟨rfl, rfl⟩
            (try go_simp)
            refine hK.out _ _ hS1 (fun _ => ?_)
            clear hK K
            simp only [List.getElem_toArray, List.getElem_cons_zero, List.getElem_cons_succ, Act.put, List.setIfInBounds_toArray, List.set_cons_zero, List.set_cons_succ]
            refine wpAnyH_take (i := 9) (v := ?_) rfl (by kernel_rfl) (by kernel_rfl) (by kernel_rfl) (fun _ _ _ h => h) (Or.inl ⟨by rfl, ?_⟩) hS1 ?_
            rotate_left
            · (intro w hSw; (try dsimp only at hSw); go_simp; try with_reducible rfl)
            simp only [List.getElem_toArray, List.getElem_cons_zero, List.getElem_cons_succ, Act.put, List.setIfInBounds_toArray, List.set_cons_zero, List.set_cons_succ]
            refine wpAnyH_ready (rs := [13]) (by kernel_rfl) (by simp) ?_
            refine AllReadyH.cons rfl (fun K hK => ?_) ?_
            · -- quiet 13
              go_simp
              refine (hNc _).mono ?_
              rintro e w' ⟨rfl, rfl⟩
              (try go_simp)
              refine hK.out _ _ hS1 (fun _ => ?_)
              clear hK K
              simp only [List.getElem_toArray, List.getElem_cons_zero, List.getElem_cons_succ, Act.put, List.setIfInBounds_toArray, List.set_cons_zero, List.set_cons_succ]
              refine wpAnyH_take (i := 14) (v := ?_) rfl (by kernel_rfl) (by kernel_rfl) (by kernel_rfl) (fun _ _ _ h => h) (Or.inl ⟨by rfl, ?_⟩) hS1 ?_
              rotate_left
              · (intro w hSw; (try dsimp only at hSw); go_simp; try with_reducible rfl)
              simp only [List.getElem_toArray, List.getElem_cons_zero, List.getElem_cons_succ, Act.put, List.setIfInBounds_toArray, List.set_cons_zero, List.set_cons_succ]
              refine wpAnyH_ready (rs := [18]) (by kernel_rfl) (by simp) ?_
              refine AllReadyH.cons rfl (fun K hK => ?_) ?_
              · -- quiet 18
                go_simp
                refine (hNd _).mono ?_
                rintro e w' ⟨rfl, rfl⟩
                (try go_simp)
                refine hK.out _ _ hS1 (fun _ => ?_)
                clear hK K
                simp only [List.getElem_toArray, List.getElem_cons_zero, List.getElem_cons_succ, Act.put, List.setIfInBounds_toArray, List.set_cons_zero, List.set_cons_succ]
                refine wpAnyH_take (i := 19) (v := ?_) rfl (by kernel_rfl) (by kernel_rfl) (by kernel_rfl) (fun _ _ _ h => h) (Or.inl ⟨by rfl, ?_⟩) hS1 ?_
                rotate_left
                · (intro w hSw; (try dsimp only at hSw); go_simp; try with_reducible rfl)
                simp only [List.getElem_toArray, List.getElem_cons_zero, List.getElem_cons_succ, Act.put, List.setIfInBounds_toArray, List.set_cons_zero, List.set_cons_succ]
                refine wpAnyH_ready (rs := [23]) (by kernel_rfl) (by simp) ?_
                refine AllReadyH.cons rfl (fun K hK => ?_) ?_
                · -- quiet 23
                  go_simp
                  refine (hNf _).mono ?_
                  rintro e w' ⟨rfl, rfl⟩
                  (try go_simp)
                  refine hK.out _ _ hS1 (fun _ => ?_)
                  clear hK K
                  simp only [List.getElem_toArray, List.getElem_cons_zero, List.getElem_cons_succ, Act.put, List.setIfInBounds_toArray, List.set_cons_zero, List.set_cons_succ]
                  refine wpAnyH_ready (rs := [27]) (by kernel_rfl) (by simp) ?_
                  refine AllReadyH.cons rfl (fun K hK => ?_) ?_
                  · -- call 27
                    go_simp
                    refine (hPg _ hB1).mono ?_
                    rintro e v2 ⟨rfl, hb2⟩
                    (try go_simp)
                    have hB2 := Bl.chain hB1 hb2 (Nat.le_refl _)
                    refine hK.out _ _ (SK.out _ hB2) (fun hS2 => ?_)
                    clear hK K
                    have hN39_2 := hN39_1.below hb2 hN39_1.lt
                    clear hb2
                    simp only [List.getElem_toArray, List.getElem_cons_zero, List.getElem_cons_succ, Act.put, List.setIfInBounds_toArray, List.set_cons_zero, List.set_cons_succ]
                    refine wpAnyH_ready (rs := [31]) (by kernel_rfl) (by simp) ?_
                    refine AllReadyH.cons rfl (fun K hK => ?_) ?_
                    · -- quiet 31
                      go_simp
                      refine (hNe _).mono ?_
                      rintro e w' ⟨rfl, rfl⟩
                      (try go_simp)
                      refine hK.out _ _ hS2 (fun _ => ?_)
                      clear hK K
                      simp only [List.getElem_toArray, List.getElem_cons_zero, List.getElem_cons_succ, Act.put, List.setIfInBounds_toArray, List.set_cons_zero, List.set_cons_succ]
                      refine wpAnyH_take (i := 32) (v := ?_) rfl (by kernel_rfl) (by kernel_rfl) (by kernel_rfl) (fun _ _ _ h => h) (Or.inl ⟨by rfl, ?_⟩) hS2 ?_
                      rotate_left
                      · (intro w hSw; (try dsimp only at hSw); go_simp; try with_reducible rfl)
                      simp only [List.getElem_toArray, List.getElem_cons_zero, List.getElem_cons_succ, Act.put, List.setIfInBounds_toArray, List.set_cons_zero, List.set_cons_succ]
                      refine wpAnyH_ready (rs := [36]) (by kernel_rfl) (by simp) ?_
                      refine AllReadyH.cons rfl (fun K hK => ?_) ?_
                      · -- quiet 36
                        go_simp
                        refine (hSp _).mono ?_
                        rintro e w' ⟨rfl, rfl⟩
                        (try go_simp)
                        refine hK.out _ _ hS2 (fun _ => ?_)
                        clear hK K
                        simp only [List.getElem_toArray, List.getElem_cons_zero, List.getElem_cons_succ, Act.put, List.setIfInBounds_toArray, List.set_cons_zero, List.set_cons_succ]
                        refine wpAnyH_take (i := 37) (v := ?_) rfl (by kernel_rfl) (by kernel_rfl) (by kernel_rfl) (fun _ _ _ h => h) (Or.inl ⟨by rfl, ?_⟩) hS2 ?_
                        rotate_left
                        · (intro w hSw; (try dsimp only at hSw); go_simp; try with_reducible rfl)
                        simp only [List.getElem_toArray, List.getElem_cons_zero, List.getElem_cons_succ, Act.put, List.setIfInBounds_toArray, List.set_cons_zero, List.set_cons_succ]
                        refine wpAnyH_take (i := 38) (v := ?_) rfl (by kernel_rfl) (by kernel_rfl) (by kernel_rfl) (fun _ _ _ h => h) (Or.inl ⟨by rfl, ?_⟩) hS2 ?_
                        rotate_left
                        · (intro w hSw; (try dsimp only at hSw); go_simp; try with_reducible rfl)
                        simp only [List.getElem_toArray, List.getElem_cons_zero, List.getElem_cons_succ, Act.put, List.setIfInBounds_toArray, List.set_cons_zero, List.set_cons_succ]
                        refine wpAnyH_ready (rs := [40]) (by kernel_rfl) (by simp) ?_
                        refine AllReadyH.cons rfl (fun K hK => ?_) ?_
                        · -- store 40
                          rw [if_pos (show Region.wanted _ _ = true from by rfl)]
                          refine wp_store_row 25 _ _ rfl g39 (rdA V) rfl rfl 25 _ hN39_2 (by kernel_rfl) rfl (by kernel_rfl) ?_
                          have hB3 := below_setRow hB2 hge39 (rdA V)
                          refine hK.out _ _ (SK.out _ hB3) (fun hS3 => ?_)
                          clear hK K
                          have hN39_3 := hN39_2.setRow (rdA V)
                          generalize v2.setRow g39 (rdA V) = v3 at *
                          simp only [List.getElem_toArray, List.getElem_cons_zero, List.getElem_cons_succ, Act.put, List.setIfInBounds_toArray, List.set_cons_zero, List.set_cons_succ]
                          refine wpAnyH_done (by kernel_rfl) ?_ _
                          go_wp2_with fail
                          go_meet
                          exact ⟨g39, rfl, Nat.lt_of_lt_of_le hzl hge39, hZ1.below hB3 hZ1.lt, hN39_3, hb1.trans (hB3.mono hb1.size)⟩
                        exact AllReadyH.nil
                      exact AllReadyH.nil
                    exact AllReadyH.nil
                  exact AllReadyH.nil
                exact AllReadyH.nil
              exact AllReadyH.nil
            exact AllReadyH.nil
          exact AllReadyH.nil
        exact AllReadyH.nil
      exact AllReadyH.nil
    case rest =>
      obtain ⟨g7, rfl, hg7, hZc, hLc, hbc⟩ := hcut
      have hcon : ∀ W, Calls Tryd.prog 32 #[.string (str (Lib.trimPrefix p4 [80, 61]))] W fun e w' => (∃ x : Int, e = .returned (.tuple #[.int .u8 (V 4 : Int), .int .i64 x])) ∧ Below W.heap.size W w' := fun W => by
        have hlen : (Lib.trimPrefix p4 [80, 61]).length ≤ 1500000 := by
          unfold Lib.trimPrefix
          split
          · rw [List.length_drop]; omega
          · exact hp4
        refine (flRead_calls (str (Lib.trimPrefix p4 [80, 61])) W (by rw [strn]; unfold maxLen; omega)).mono fun e w' h => ⟨?_, h.2⟩
        rw [h.1, str_toList, errOf_eq, hVg]
        exact ⟨_, rfl⟩
      have HV := hide hV
      have HRD := hide hrd
      clear hNa hNb hNc hNd hNe hNf hPg hSp ea eb ec ed ee e15 hS hZ1 hb1 hM1 SK hV hVg hrd hok2
      go_wp2_with fail
      refine (hcon _).mono ?_
      rintro e w2 ⟨⟨x, rfl⟩, hb2⟩
      have hZ2 := hZc.below hb2 hZc.lt
      have hL2 := hLc.below hb2 hLc.lt
      have hb02 := hbc.trans (hb2.mono hbc.size)
      have c4 : w2.cell? ⟨g7, 4, none⟩ = some (.int .u8 0) := hL2.cell 4
      have f4 : w2.frozen? ⟨g7, 4, none⟩ = false := hL2.frozen 4
      have hL3 : Blk (w2.setCell ⟨g7, 4, none⟩ (.int .u8 (V 4 : Int))) g7 25 (stA V) := hL2.set_ 4 (.int .u8 (V 4 : Int))
      have hZ3 := hZ2.far (p := ⟨g7, 4, none⟩) (by dsimp only; omega) (.int .u8 (V 4 : Int))
      have hb3 := hb02.setCell (p := ⟨g7, 4, none⟩) (by dsimp only; omega) (.int .u8 (V 4 : Int))
      clear hcon hZc hLc hbc hb2 hZ2 hL2 hb02
      go_upto_region 7 with fail
      generalize w2.setCell ⟨g7, 4, none⟩ (.int .u8 (V 4 : Int)) = w3 at *
      clear c4 f4
      go_wp2_with (refine wpList_load_row rfl 25 _ rfl g7 rfl _ (stA V) (0, 0) _ hL3 Tryd.underlying25 rfl (by kernel_rfl) ?_)
      refine (stText_calls V _ hok3.out).mono ?_
      rintro e w4 ⟨rfl, hb4⟩
      have hZ4 := hZ3.below hb4 hZ3.lt
      have hL4 := hL3.below hb4 hL3.lt
      have hb04 := hb3.trans (hb4.mono hb3.size)
      clear hZ3 hL3 hb3 hb4
      by_cases ht : tS V = l
      · have hq : ((str (tS V)).toList != (str l).toList) = false := by rw [str_toList, str_toList, ht]; exact bne_self_eq_false _
        have hq2 : ((str (tS V)).toList == (str l).toList) = true := by rw [str_toList, str_toList, ht]; exact beq_self_eq_true _
        have HE : Hid (rdV l = .tuple #[.agg (stA V), .int .i64 0]) := by rw [HRD.out, HV.out, if_pos ht]; exact rfl
        clear ht
        go_wp2_with (first
          | (refine wpList_load_row rfl 25 _ rfl g7 rfl _ (stA V) (0, 0) _ hL4 Tryd.underlying25 rfl (by kernel_rfl) ?_)
          | (refine wpList_store_row rfl 25 _ _ rfl w.heap.size (stA V) rfl rfl 25 _ hZ4 (by kernel_rfl) rfl (by kernel_rfl) ?_))
        exact bodyPost_ret (results_ct rfl rfl (hZ4.setRow _) Tryd.underlying25 rfl (by kernel_rfl)) rfl ⟨by rw [HE.out]; rfl, below_setRow hb04 (Nat.le_refl _) _⟩
      · have hne : (tS V == l) = false := beq_eq_false_iff_ne.2 ht
        have hq : ((str (tS V)).toList != (str l).toList) = true := by rw [str_toList, str_toList, bne, hne]; rfl
        have hq2 : ((str (tS V)).toList == (str l).toList) = false := by rw [str_toList, str_toList]; exact hne
        have HE : Hid (rdV l = .tuple #[.agg zst, .int .i64 3]) := by rw [HRD.out, HV.out, if_neg ht]; exact rfl
        clear ht hne
        go_wp2_with (refine wpList_store_row rfl 25 _ _ rfl w.heap.size zst rfl rfl 25 _ hZ4 (by kernel_rfl) rfl (by kernel_rfl) ?_)
        exact bodyPost_ret (results_ct rfl rfl (hZ4.setRow _) Tryd.underlying25 rfl (by kernel_rfl)) rfl ⟨by rw [HE.out]; rfl, below_setRow hb04 (Nat.le_refl _) _⟩
  · have hrd : rdV l = .tuple #[.agg zst, .int .i64 3] := if_neg fun h => h9 h.1
    have HR := hide hrd
    obtain ⟨n, hn⟩ : ∃ n, (Lib.split l [32]).length = n := ⟨_, rfl⟩
    rw [hn] at h9 hspl hsln
    have h9' : ((n : Int) != 9) = true := by rw [bne_iff_ne]; omega
    clear hrd hn h9 hpl
    go_enter Tryd.func9, Tryd.ntmps9
    go_wp2_with fail
    refine (hspl _ hb).mono ?_
    rintro e w1 ⟨rfl, rfl⟩
    have hZ1 := hZ.alloc (.cells (srow (Lib.split l [32])) 9)
    have hb1 := Bl.alloc hb (.cells (srow (Lib.split l [32])) 9)
    generalize (w.alloc (.cells #[.int .u8 0, .int .u8 0, .int .u8 0, .int .u8 0, .int .u8 0, .int .u16 0, .int .u8 0, .int .u8 0, .int .u8 0, .int .u8 0, .int .u8 0, .int .u8 0, .int .u8 0, .int .u8 0, .int .u8 0, .bool false] 25)).alloc (.cells (srow (Lib.split l [32])) 9) = w1 at *
    clear hspl hZ hb
    go_wp2_with (refine wpList_store_row rfl 25 _ _ rfl w.heap.size zst rfl rfl 25 _ hZ1 (by kernel_rfl) rfl (by kernel_rfl) ?_)
    exact bodyPost_ret (results_ct rfl rfl (hZ1.setRow _) Tryd.underlying25 rfl (by kernel_rfl)) rfl ⟨by rw [HR.out]; rfl, below_setRow hb1 (Nat.le_refl _) _⟩
end Go.Proofs.YtelmkpcocaogjaaDoor
