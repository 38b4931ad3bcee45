/-
  Package micro: letter, point, one.
-/
import Derived.Test.YtodimiffmmkndaaDoorTm2
import Derived.Test.YtodimiffmmkndaaDoorRet
namespace Go.Proofs.YtodimiffmmkndaaDoor
set_option linter.unusedSimpArgs false
set_option linter.unusedVariables false
set_option maxRecDepth 10000
open Go.RowKit Go.Shelf Pl
def ltr (b : UInt8) : UInt8 := if b = 46 then 0 else b
def pnt (b : UInt8) : UInt8 := if b = 0 then 46 else b
theorem u8_ne {a b : UInt8} (h : a ≠ b) : ((a.toNat : Int) == (b.toNat : Int)) = false := by
  rw [beq_eq_false_iff_ne]
  intro e
  exact h (UInt8.toNat_inj.1 (by omega))
theorem ltr_calls (b : UInt8) (w : World) : Calls Tryd.prog 42 #[.int .u8 (b.toNat : Int)] w fun e w' => e = .returned (.int .u8 ((ltr b).toNat : Int)) ∧ w = w' := by
  unfold ltr
  by_cases h : b = 46
  · subst h
    go_enter Tryd.func42, Tryd.ntmps42
    go_wp2_with fail
    go_ret
    exact ⟨rfl, rfl⟩
  · rw [if_neg h]
    have h1 : ((b.toNat : Int) == 46) = false := u8_ne h
    go_enter Tryd.func42, Tryd.ntmps42
    go_wp2_with fail
    go_ret
    exact ⟨rfl, rfl⟩
theorem pnt_calls (b : UInt8) (w : World) : Calls Tryd.prog 44 #[.int .u8 (b.toNat : Int)] w fun e w' => e = .returned (.int .u8 ((pnt b).toNat : Int)) ∧ w = w' := by
  unfold pnt
  by_cases h : b = 0
  · subst h
    go_enter Tryd.func44, Tryd.ntmps44
    go_wp2_with fail
    go_ret
    exact ⟨rfl, rfl⟩
  · rw [if_neg h]
    have h1 : ((b.toNat : Int) == 0) = false := u8_ne h
    go_enter Tryd.func44, Tryd.ntmps44
    go_wp2_with fail
    go_ret
    exact ⟨rfl, rfl⟩
theorem ib_calls (l : List UInt8) (b : UInt8) (w : World) : Calls Tryd.prog 43 #[.string ⟨l.toArray⟩, .int .u8 (b.toNat : Int)] w fun e w' => e = .returned (.int .i64 (Lib.indexByte l b)) ∧ w = w' := by
  refine (Tryd.strings_IndexByte ⟨l.toArray⟩ (b.toNat : Int) w).mono ?_
  rintro e w' ⟨rfl, rfl⟩
  refine ⟨?_, rfl⟩
  have e1 : ((b.toNat : Int).toNat).toUInt8 = b := by
    rw [Int.toNat_natCast]
    exact UInt8.ofNat_toNat
  rw [e1]
/-- An op: its access, what, when, and whether it acts. -/
def okO (a t n : UInt8) : Bool := decide (0 ≤ Lib.indexByte [70, 79, 68, 76, 83, 80, 85, 86] a) && decide (t ≠ 46) && decide (n ≠ 46) && (decide (n = 0) || decide (0 ≤ Lib.indexByte [84, 68, 66, 78] n))
def txO (a t n : UInt8) (c : Bool) : List UInt8 := [a, pnt t, pnt n, if c then 33 else 46]
def vaO (a t n : UInt8) (c : Bool) : Array Value := #[.int .u8 (a.toNat : Int), .int .u8 (t.toNat : Int), .int .u8 (n.toNat : Int), .bool c]
theorem ltr_pnt (t : UInt8) (h : t ≠ 46) : ltr (pnt t) = t := by
  unfold pnt
  by_cases h0 : t = 0
  · subst h0; rfl
  · rw [if_neg h0]; unfold ltr; rw [if_neg h]
theorem pnt_ne (t : UInt8) : pnt t ≠ 0 := by
  unfold pnt
  by_cases h0 : t = 0
  · subst h0; decide
  · rw [if_neg h0]; exact h0
set_option maxHeartbeats 4000000 in
theorem oneO_calls (a t n : UInt8) (c : Bool) (w : World) (h : okO a t n = true) :
    Calls Tryd.prog 19 #[.string ⟨(txO a t n c).toArray⟩] w fun e w' => e = .returned (.tuple #[.agg (vaO a t n c), .bool true]) ∧ Below w.heap.size w w' := by
  unfold okO at h
  simp only [Bool.and_eq_true, Bool.or_eq_true, decide_eq_true_eq] at h
  obtain ⟨⟨⟨h1, h2⟩, h3⟩, h4⟩ := h
  have hl1 := fun W => ltr_calls (pnt n) W
  have hl2 := fun W => ltr_calls (pnt t) W
  rw [ltr_pnt n h3] at hl1
  rw [ltr_pnt t h2] at hl2
  have hi := fun W => ib_calls [70, 79, 68, 76, 83, 80, 85, 86] a W
  have hi2 := fun W => ib_calls [84, 68, 66, 78] n W
  have hp1 : (((pnt t).toNat : Int) == 0) = false := u8_ne (pnt_ne t)
  unfold txO vaO
  generalize pnt t = p1 at *
  generalize pnt n = p2 at *
  generalize Lib.indexByte [70, 79, 68, 76, 83, 80, 85, 86] a = ia at *
  have hp2 : (((p1).toNat : Int) != 0) = true := by rw [bne, hp1]; rfl
  cases c
  case true =>
    by_cases hn : n = 0
    · have e0 : ∀ h, (⟨#[a, p1, p2, 33]⟩ : ByteArray)[0]'h = a := fun _ => rfl
      have e1 : ∀ h, (⟨#[a, p1, p2, 33]⟩ : ByteArray)[1]'h = p1 := fun _ => rfl
      have e2 : ∀ h, (⟨#[a, p1, p2, 33]⟩ : ByteArray)[2]'h = p2 := fun _ => rfl
      have e3 : ∀ h, (⟨#[a, p1, p2, 33]⟩ : ByteArray)[3]'h = 33 := fun _ => rfl
      subst hn
      clear h4 hi2 h3
      have hl1 : ∀ W, Calls Tryd.prog 42 #[.int .u8 (p2.toNat : Int)] W fun e w' => e = .returned (.int .u8 0) ∧ W = w' := hl1
      have hZ : Blk (w.alloc (.cells #[.int .u8 0, .int .u8 0, .int .u8 0, .bool false] 39)) w.heap.size 39 #[.int .u8 0, .int .u8 0, .int .u8 0, .bool false] := Blk.new _ _ _
      have hbZ : Below w.heap.size w (w.alloc (.cells #[.int .u8 0, .int .u8 0, .int .u8 0, .bool false] 39)) := Bl.alloc (Below.refl _ _) _
      go_enter Tryd.func19, Tryd.ntmps19
      go_wp2_with fail
      refine Cl.p (hl1 _) ?_
      go_wp2_with fail
      refine Cl.p (hi _) ?_
      go_wp2_with fail
      generalize w.alloc (.cells #[.int .u8 0, .int .u8 0, .int .u8 0, .bool false] 39) = w1 at *
      obtain ⟨g, hg⟩ : ∃ x, w.heap.size = x := ⟨_, rfl⟩
      rw [hg] at hZ hbZ ⊢
      have HG := hide hg
      clear hg
      refine wp_region_held_drew (S := fun W => Below g w W) (by kernel_rfl) (by first | exact hbZ.drew | exact hbZ | exact Below.drew hbZ) (fun hS0 => ?_)
      have hZ_0 : Blk w1.drew g 39 #[.int .u8 0, .int .u8 0, .int .u8 0, .bool false] := by first | exact hZ.drew | exact hZ
      clear hbZ hZ
      change wpAnyH _ _ _ _ _ 13 #[false, false, false, false, false, false, false, false, false, false, false, false, false] _ _
      generalize w1.drew = v0 at *
      refine wpAnyH_take (i := 0) (v := ?_) rfl (by kernel_rfl) (by kernel_rfl) (by kernel_rfl) (fun _ _ _ h => h) (Or.inl ⟨by rfl, ?_⟩) hS0 ?_
      rotate_left
      · (intro w hSw; (try dsimp only at hSw); go_simp; try with_reducible rfl)
      simp only [List.getElem_toArray, List.getElem_cons_zero, List.getElem_cons_succ, Act.put, List.setIfInBounds_toArray, List.set_cons_zero, List.set_cons_succ]
      refine wpAnyH_take (i := 1) (v := ?_) rfl (by kernel_rfl) (by kernel_rfl) (by kernel_rfl) (fun _ _ _ h => h) (Or.inl ⟨by rfl, ?_⟩) hS0 ?_
      rotate_left
      · (intro w hSw; (try dsimp only at hSw); go_simp; try with_reducible rfl)
      simp only [List.getElem_toArray, List.getElem_cons_zero, List.getElem_cons_succ, Act.put, List.setIfInBounds_toArray, List.set_cons_zero, List.set_cons_succ]
      refine wpAnyH_take (i := 2) (v := ?_) rfl (by kernel_rfl) (by kernel_rfl) (by kernel_rfl) (fun _ _ _ h => h) (Or.inl ⟨by rfl, ?_⟩) hS0 ?_
      rotate_left
      · (intro w hSw; (try dsimp only at hSw); go_simp; try with_reducible rfl)
      simp only [List.getElem_toArray, List.getElem_cons_zero, List.getElem_cons_succ, Act.put, List.setIfInBounds_toArray, List.set_cons_zero, List.set_cons_succ]
      refine wpAnyH_take (i := 3) (v := ?_) rfl (by kernel_rfl) (by kernel_rfl) (by kernel_rfl) (fun _ _ _ h => h) (Or.inl ⟨by rfl, ?_⟩) hS0 ?_
      rotate_left
      · (intro w hSw; (try dsimp only at hSw); go_simp; try with_reducible rfl)
      simp only [List.getElem_toArray, List.getElem_cons_zero, List.getElem_cons_succ, Act.put, List.setIfInBounds_toArray, List.set_cons_zero, List.set_cons_succ]
      refine wpAnyH_take (i := 5) (v := ?_) rfl (by kernel_rfl) (by kernel_rfl) (by kernel_rfl) (fun _ _ _ h => h) (Or.inl ⟨by rfl, ?_⟩) hS0 ?_
      rotate_left
      · (intro w hSw; (try dsimp only at hSw); go_simp; try with_reducible rfl)
      simp only [List.getElem_toArray, List.getElem_cons_zero, List.getElem_cons_succ, Act.put, List.setIfInBounds_toArray, List.set_cons_zero, List.set_cons_succ]
      refine wpAnyH_take (i := 6) (v := ?_) rfl (by kernel_rfl) (by kernel_rfl) (by kernel_rfl) (fun _ _ _ h => h) (Or.inl ⟨by rfl, ?_⟩) hS0 ?_
      rotate_left
      · (intro w hSw; (try dsimp only at hSw); go_simp; try with_reducible rfl)
      simp only [List.getElem_toArray, List.getElem_cons_zero, List.getElem_cons_succ, Act.put, List.setIfInBounds_toArray, List.set_cons_zero, List.set_cons_succ]
      refine wpAnyH_take (i := 7) (v := ?_) rfl (by kernel_rfl) (by kernel_rfl) (by kernel_rfl) (fun _ _ _ h => h) (Or.inl ⟨by rfl, ?_⟩) hS0 ?_
      rotate_left
      · (intro w hSw; (try dsimp only at hSw); go_simp; try with_reducible rfl)
      simp only [List.getElem_toArray, List.getElem_cons_zero, List.getElem_cons_succ, Act.put, List.setIfInBounds_toArray, List.set_cons_zero, List.set_cons_succ]
      refine wpAnyH_take (i := 8) (v := ?_) rfl (by kernel_rfl) (by kernel_rfl) (by kernel_rfl) (fun _ _ _ h => h) (Or.inl ⟨by rfl, ?_⟩) hS0 ?_
      rotate_left
      · (intro w hSw; (try dsimp only at hSw); go_simp; try with_reducible rfl)
      simp only [List.getElem_toArray, List.getElem_cons_zero, List.getElem_cons_succ, Act.put, List.setIfInBounds_toArray, List.set_cons_zero, List.set_cons_succ]
      refine wpAnyH_take (i := 10) (v := ?_) rfl (by kernel_rfl) (by kernel_rfl) (by kernel_rfl) (fun _ _ _ h => h) (Or.inl ⟨by rfl, ?_⟩) hS0 ?_
      rotate_left
      · (intro w hSw; (try dsimp only at hSw); go_simp; try with_reducible rfl)
      simp only [List.getElem_toArray, List.getElem_cons_zero, List.getElem_cons_succ, Act.put, List.setIfInBounds_toArray, List.set_cons_zero, List.set_cons_succ]
      refine wpAnyH_ready (rs := [4]) (by kernel_rfl) (by simp) ?_
      refine AllReadyH.cons rfl (fun K hK => ?_) AllReadyH.nil
      go_simp
      refine (hl2 _).mono ?_
      rintro e w' ⟨rfl, rfl⟩
      (try go_simp)
      refine hK.out _ _ hS0 (fun _ => ?_)
      clear hK K
      simp only [List.getElem_toArray, List.getElem_cons_zero, List.getElem_cons_succ, Act.put, List.setIfInBounds_toArray, List.set_cons_zero, List.set_cons_succ]
      refine wpAnyH_take (i := 9) (v := ?_) rfl (by kernel_rfl) (by kernel_rfl) (by kernel_rfl) (fun _ _ _ h => h) (Or.inl ⟨by rfl, ?_⟩) hS0 ?_
      rotate_left
      · (intro w hSw; (try dsimp only at hSw); go_simp; try with_reducible rfl)
      simp only [List.getElem_toArray, List.getElem_cons_zero, List.getElem_cons_succ, Act.put, List.setIfInBounds_toArray, List.set_cons_zero, List.set_cons_succ]
      refine wpAnyH_ready (rs := [11]) (by kernel_rfl) (by simp) ?_
      refine AllReadyH.cons rfl (fun K hK => ?_) AllReadyH.nil
      rw [if_pos (show Region.wanted _ _ = true from by rfl)]
      refine wp_store_row 39 _ _ rfl g #[.int .u8 (a.toNat : Int), .int .u8 (t.toNat : Int), .int .u8 0, .bool true] rfl rfl 39 _ hZ_0 (by kernel_rfl) rfl (by kernel_rfl) ?_
      refine hK.out _ _ (by first | exact below_setRow hS0 (by omega) _ | exact hS0.setRow_far (by omega) _ | exact (World.cell?_of_block (setRow_block _ _ _ _ (by first | omega | (dsimp only; omega)))).trans hS0 | exact hS0.only (only_setRow _ _ _) (fun k e => by (have e : k = _ := e); omega)) (fun hS1 => ?_)
      clear hK K
      have hZ_1 := hZ_0.setRow #[.int .u8 (a.toNat : Int), .int .u8 (t.toNat : Int), .int .u8 0, .bool true]
      clear hS0
      generalize v0.setRow g #[.int .u8 (a.toNat : Int), .int .u8 (t.toNat : Int), .int .u8 0, .bool true] = v1 at *
      simp only [List.getElem_toArray, List.getElem_cons_zero, List.getElem_cons_succ, Act.put, List.setIfInBounds_toArray, List.set_cons_zero, List.set_cons_succ]
      refine wpAnyH_take (i := 12) (v := ?_) rfl (by kernel_rfl) (by kernel_rfl) (by kernel_rfl) (fun _ _ _ h => h) (Or.inl ⟨by rfl, ?_⟩) hS1 ?_
      rotate_left
      · (intro w hSw; (try dsimp only at hSw); go_simp; try with_reducible rfl)
      simp only [List.getElem_toArray, List.getElem_cons_zero, List.getElem_cons_succ, Act.put, List.setIfInBounds_toArray, List.set_cons_zero, List.set_cons_succ]
      refine wpAnyH_done (by kernel_rfl) ?_ _
      have hbZ := hS1
      clear hS1
      have hZ := hZ_1
      go_wp2_with fail
      refine bodyPost_ret (results_ct rfl rfl hZ Tryd.underlying39 rfl (by kernel_rfl)) rfl ⟨rfl, by rw [HG.out]; exact hbZ⟩
    · have e0 : ∀ h, (⟨#[a, p1, p2, 33]⟩ : ByteArray)[0]'h = a := fun _ => rfl
      have e1 : ∀ h, (⟨#[a, p1, p2, 33]⟩ : ByteArray)[1]'h = p1 := fun _ => rfl
      have e2 : ∀ h, (⟨#[a, p1, p2, 33]⟩ : ByteArray)[2]'h = p2 := fun _ => rfl
      have e3 : ∀ h, (⟨#[a, p1, p2, 33]⟩ : ByteArray)[3]'h = 33 := fun _ => rfl
      have h4 := h4.resolve_left hn
      have hn0 : ((n.toNat : Int) == 0) = false := u8_ne hn
      generalize Lib.indexByte [84, 68, 66, 78] n = ib at *
      clear hn h3
      have hZ : Blk (w.alloc (.cells #[.int .u8 0, .int .u8 0, .int .u8 0, .bool false] 39)) w.heap.size 39 #[.int .u8 0, .int .u8 0, .int .u8 0, .bool false] := Blk.new _ _ _
      have hbZ : Below w.heap.size w (w.alloc (.cells #[.int .u8 0, .int .u8 0, .int .u8 0, .bool false] 39)) := Bl.alloc (Below.refl _ _) _
      go_enter Tryd.func19, Tryd.ntmps19
      go_wp2_with fail
      refine Cl.p (hl1 _) ?_
      go_wp2_with fail
      refine Cl.p (hi _) ?_
      go_wp2_with fail
      refine Cl.p (hi2 _) ?_
      go_wp2_with fail
      generalize w.alloc (.cells #[.int .u8 0, .int .u8 0, .int .u8 0, .bool false] 39) = w1 at *
      obtain ⟨g, hg⟩ : ∃ x, w.heap.size = x := ⟨_, rfl⟩
      rw [hg] at hZ hbZ ⊢
      have HG := hide hg
      clear hg
      refine wp_region_held_drew (S := fun W => Below g w W) (by kernel_rfl) (by first | exact hbZ.drew | exact hbZ | exact Below.drew hbZ) (fun hS0 => ?_)
      have hZ_0 : Blk w1.drew g 39 #[.int .u8 0, .int .u8 0, .int .u8 0, .bool false] := by first | exact hZ.drew | exact hZ
      clear hbZ hZ
      change wpAnyH _ _ _ _ _ 13 #[false, false, false, false, false, false, false, false, false, false, false, false, false] _ _
      generalize w1.drew = v0 at *
      refine wpAnyH_take (i := 0) (v := ?_) rfl (by kernel_rfl) (by kernel_rfl) (by kernel_rfl) (fun _ _ _ h => h) (Or.inl ⟨by rfl, ?_⟩) hS0 ?_
      rotate_left
      · (intro w hSw; (try dsimp only at hSw); go_simp; try with_reducible rfl)
      simp only [List.getElem_toArray, List.getElem_cons_zero, List.getElem_cons_succ, Act.put, List.setIfInBounds_toArray, List.set_cons_zero, List.set_cons_succ]
      refine wpAnyH_take (i := 1) (v := ?_) rfl (by kernel_rfl) (by kernel_rfl) (by kernel_rfl) (fun _ _ _ h => h) (Or.inl ⟨by rfl, ?_⟩) hS0 ?_
      rotate_left
      · (intro w hSw; (try dsimp only at hSw); go_simp; try with_reducible rfl)
      simp only [List.getElem_toArray, List.getElem_cons_zero, List.getElem_cons_succ, Act.put, List.setIfInBounds_toArray, List.set_cons_zero, List.set_cons_succ]
      refine wpAnyH_take (i := 2) (v := ?_) rfl (by kernel_rfl) (by kernel_rfl) (by kernel_rfl) (fun _ _ _ h => h) (Or.inl ⟨by rfl, ?_⟩) hS0 ?_
      rotate_left
      · (intro w hSw; (try dsimp only at hSw); go_simp; try with_reducible rfl)
      simp only [List.getElem_toArray, List.getElem_cons_zero, List.getElem_cons_succ, Act.put, List.setIfInBounds_toArray, List.set_cons_zero, List.set_cons_succ]
      refine wpAnyH_take (i := 3) (v := ?_) rfl (by kernel_rfl) (by kernel_rfl) (by kernel_rfl) (fun _ _ _ h => h) (Or.inl ⟨by rfl, ?_⟩) hS0 ?_
      rotate_left
      · (intro w hSw; (try dsimp only at hSw); go_simp; try with_reducible rfl)
      simp only [List.getElem_toArray, List.getElem_cons_zero, List.getElem_cons_succ, Act.put, List.setIfInBounds_toArray, List.set_cons_zero, List.set_cons_succ]
      refine wpAnyH_take (i := 5) (v := ?_) rfl (by kernel_rfl) (by kernel_rfl) (by kernel_rfl) (fun _ _ _ h => h) (Or.inl ⟨by rfl, ?_⟩) hS0 ?_
      rotate_left
      · (intro w hSw; (try dsimp only at hSw); go_simp; try with_reducible rfl)
      simp only [List.getElem_toArray, List.getElem_cons_zero, List.getElem_cons_succ, Act.put, List.setIfInBounds_toArray, List.set_cons_zero, List.set_cons_succ]
      refine wpAnyH_take (i := 6) (v := ?_) rfl (by kernel_rfl) (by kernel_rfl) (by kernel_rfl) (fun _ _ _ h => h) (Or.inl ⟨by rfl, ?_⟩) hS0 ?_
      rotate_left
      · (intro w hSw; (try dsimp only at hSw); go_simp; try with_reducible rfl)
      simp only [List.getElem_toArray, List.getElem_cons_zero, List.getElem_cons_succ, Act.put, List.setIfInBounds_toArray, List.set_cons_zero, List.set_cons_succ]
      refine wpAnyH_take (i := 7) (v := ?_) rfl (by kernel_rfl) (by kernel_rfl) (by kernel_rfl) (fun _ _ _ h => h) (Or.inl ⟨by rfl, ?_⟩) hS0 ?_
      rotate_left
      · (intro w hSw; (try dsimp only at hSw); go_simp; try with_reducible rfl)
      simp only [List.getElem_toArray, List.getElem_cons_zero, List.getElem_cons_succ, Act.put, List.setIfInBounds_toArray, List.set_cons_zero, List.set_cons_succ]
      refine wpAnyH_take (i := 8) (v := ?_) rfl (by kernel_rfl) (by kernel_rfl) (by kernel_rfl) (fun _ _ _ h => h) (Or.inl ⟨by rfl, ?_⟩) hS0 ?_
      rotate_left
      · (intro w hSw; (try dsimp only at hSw); go_simp; try with_reducible rfl)
      simp only [List.getElem_toArray, List.getElem_cons_zero, List.getElem_cons_succ, Act.put, List.setIfInBounds_toArray, List.set_cons_zero, List.set_cons_succ]
      refine wpAnyH_take (i := 10) (v := ?_) rfl (by kernel_rfl) (by kernel_rfl) (by kernel_rfl) (fun _ _ _ h => h) (Or.inl ⟨by rfl, ?_⟩) hS0 ?_
      rotate_left
      · (intro w hSw; (try dsimp only at hSw); go_simp; try with_reducible rfl)
      simp only [List.getElem_toArray, List.getElem_cons_zero, List.getElem_cons_succ, Act.put, List.setIfInBounds_toArray, List.set_cons_zero, List.set_cons_succ]
      refine wpAnyH_ready (rs := [4]) (by kernel_rfl) (by simp) ?_
      refine AllReadyH.cons rfl (fun K hK => ?_) AllReadyH.nil
      go_simp
      refine (hl2 _).mono ?_
      rintro e w' ⟨rfl, rfl⟩
      (try go_simp)
      refine hK.out _ _ hS0 (fun _ => ?_)
      clear hK K
      simp only [List.getElem_toArray, List.getElem_cons_zero, List.getElem_cons_succ, Act.put, List.setIfInBounds_toArray, List.set_cons_zero, List.set_cons_succ]
      refine wpAnyH_take (i := 9) (v := ?_) rfl (by kernel_rfl) (by kernel_rfl) (by kernel_rfl) (fun _ _ _ h => h) (Or.inl ⟨by rfl, ?_⟩) hS0 ?_
      rotate_left
      · (intro w hSw; (try dsimp only at hSw); go_simp; try with_reducible rfl)
      simp only [List.getElem_toArray, List.getElem_cons_zero, List.getElem_cons_succ, Act.put, List.setIfInBounds_toArray, List.set_cons_zero, List.set_cons_succ]
      refine wpAnyH_ready (rs := [11]) (by kernel_rfl) (by simp) ?_
      refine AllReadyH.cons rfl (fun K hK => ?_) AllReadyH.nil
      rw [if_pos (show Region.wanted _ _ = true from by rfl)]
      refine wp_store_row 39 _ _ rfl g #[.int .u8 (a.toNat : Int), .int .u8 (t.toNat : Int), .int .u8 (n.toNat : Int), .bool true] rfl rfl 39 _ hZ_0 (by kernel_rfl) rfl (by kernel_rfl) ?_
      refine hK.out _ _ (by first | exact below_setRow hS0 (by omega) _ | exact hS0.setRow_far (by omega) _ | exact (World.cell?_of_block (setRow_block _ _ _ _ (by first | omega | (dsimp only; omega)))).trans hS0 | exact hS0.only (only_setRow _ _ _) (fun k e => by (have e : k = _ := e); omega)) (fun hS1 => ?_)
      clear hK K
      have hZ_1 := hZ_0.setRow #[.int .u8 (a.toNat : Int), .int .u8 (t.toNat : Int), .int .u8 (n.toNat : Int), .bool true]
      clear hS0
      generalize v0.setRow g #[.int .u8 (a.toNat : Int), .int .u8 (t.toNat : Int), .int .u8 (n.toNat : Int), .bool true] = v1 at *
      simp only [List.getElem_toArray, List.getElem_cons_zero, List.getElem_cons_succ, Act.put, List.setIfInBounds_toArray, List.set_cons_zero, List.set_cons_succ]
      refine wpAnyH_take (i := 12) (v := ?_) rfl (by kernel_rfl) (by kernel_rfl) (by kernel_rfl) (fun _ _ _ h => h) (Or.inl ⟨by rfl, ?_⟩) hS1 ?_
      rotate_left
      · (intro w hSw; (try dsimp only at hSw); go_simp; try with_reducible rfl)
      simp only [List.getElem_toArray, List.getElem_cons_zero, List.getElem_cons_succ, Act.put, List.setIfInBounds_toArray, List.set_cons_zero, List.set_cons_succ]
      refine wpAnyH_done (by kernel_rfl) ?_ _
      have hbZ := hS1
      clear hS1
      have hZ := hZ_1
      go_wp2_with fail
      refine bodyPost_ret (results_ct rfl rfl hZ Tryd.underlying39 rfl (by kernel_rfl)) rfl ⟨rfl, by rw [HG.out]; exact hbZ⟩
  case false =>
    by_cases hn : n = 0
    · have e0 : ∀ h, (⟨#[a, p1, p2, 46]⟩ : ByteArray)[0]'h = a := fun _ => rfl
      have e1 : ∀ h, (⟨#[a, p1, p2, 46]⟩ : ByteArray)[1]'h = p1 := fun _ => rfl
      have e2 : ∀ h, (⟨#[a, p1, p2, 46]⟩ : ByteArray)[2]'h = p2 := fun _ => rfl
      have e3 : ∀ h, (⟨#[a, p1, p2, 46]⟩ : ByteArray)[3]'h = 46 := fun _ => rfl
      subst hn
      clear h4 hi2 h3
      have hl1 : ∀ W, Calls Tryd.prog 42 #[.int .u8 (p2.toNat : Int)] W fun e w' => e = .returned (.int .u8 0) ∧ W = w' := hl1
      have hZ : Blk (w.alloc (.cells #[.int .u8 0, .int .u8 0, .int .u8 0, .bool false] 39)) w.heap.size 39 #[.int .u8 0, .int .u8 0, .int .u8 0, .bool false] := Blk.new _ _ _
      have hbZ : Below w.heap.size w (w.alloc (.cells #[.int .u8 0, .int .u8 0, .int .u8 0, .bool false] 39)) := Bl.alloc (Below.refl _ _) _
      go_enter Tryd.func19, Tryd.ntmps19
      go_wp2_with fail
      refine Cl.p (hl1 _) ?_
      go_wp2_with fail
      refine Cl.p (hi _) ?_
      go_wp2_with fail
      generalize w.alloc (.cells #[.int .u8 0, .int .u8 0, .int .u8 0, .bool false] 39) = w1 at *
      obtain ⟨g, hg⟩ : ∃ x, w.heap.size = x := ⟨_, rfl⟩
      rw [hg] at hZ hbZ ⊢
      have HG := hide hg
      clear hg
      refine wp_region_held_drew (S := fun W => Below g w W) (by kernel_rfl) (by first | exact hbZ.drew | exact hbZ | exact Below.drew hbZ) (fun hS0 => ?_)
      have hZ_0 : Blk w1.drew g 39 #[.int .u8 0, .int .u8 0, .int .u8 0, .bool false] := by first | exact hZ.drew | exact hZ
      clear hbZ hZ
      change wpAnyH _ _ _ _ _ 13 #[false, false, false, false, false, false, false, false, false, false, false, false, false] _ _
      generalize w1.drew = v0 at *
      refine wpAnyH_take (i := 0) (v := ?_) rfl (by kernel_rfl) (by kernel_rfl) (by kernel_rfl) (fun _ _ _ h => h) (Or.inl ⟨by rfl, ?_⟩) hS0 ?_
      rotate_left
      · (intro w hSw; (try dsimp only at hSw); go_simp; try with_reducible rfl)
      simp only [List.getElem_toArray, List.getElem_cons_zero, List.getElem_cons_succ, Act.put, List.setIfInBounds_toArray, List.set_cons_zero, List.set_cons_succ]
      refine wpAnyH_take (i := 1) (v := ?_) rfl (by kernel_rfl) (by kernel_rfl) (by kernel_rfl) (fun _ _ _ h => h) (Or.inl ⟨by rfl, ?_⟩) hS0 ?_
      rotate_left
      · (intro w hSw; (try dsimp only at hSw); go_simp; try with_reducible rfl)
      simp only [List.getElem_toArray, List.getElem_cons_zero, List.getElem_cons_succ, Act.put, List.setIfInBounds_toArray, List.set_cons_zero, List.set_cons_succ]
      refine wpAnyH_take (i := 2) (v := ?_) rfl (by kernel_rfl) (by kernel_rfl) (by kernel_rfl) (fun _ _ _ h => h) (Or.inl ⟨by rfl, ?_⟩) hS0 ?_
      rotate_left
      · (intro w hSw; (try dsimp only at hSw); go_simp; try with_reducible rfl)
      simp only [List.getElem_toArray, List.getElem_cons_zero, List.getElem_cons_succ, Act.put, List.setIfInBounds_toArray, List.set_cons_zero, List.set_cons_succ]
      refine wpAnyH_take (i := 3) (v := ?_) rfl (by kernel_rfl) (by kernel_rfl) (by kernel_rfl) (fun _ _ _ h => h) (Or.inl ⟨by rfl, ?_⟩) hS0 ?_
      rotate_left
      · (intro w hSw; (try dsimp only at hSw); go_simp; try with_reducible rfl)
      simp only [List.getElem_toArray, List.getElem_cons_zero, List.getElem_cons_succ, Act.put, List.setIfInBounds_toArray, List.set_cons_zero, List.set_cons_succ]
      refine wpAnyH_take (i := 5) (v := ?_) rfl (by kernel_rfl) (by kernel_rfl) (by kernel_rfl) (fun _ _ _ h => h) (Or.inl ⟨by rfl, ?_⟩) hS0 ?_
      rotate_left
      · (intro w hSw; (try dsimp only at hSw); go_simp; try with_reducible rfl)
      simp only [List.getElem_toArray, List.getElem_cons_zero, List.getElem_cons_succ, Act.put, List.setIfInBounds_toArray, List.set_cons_zero, List.set_cons_succ]
      refine wpAnyH_take (i := 6) (v := ?_) rfl (by kernel_rfl) (by kernel_rfl) (by kernel_rfl) (fun _ _ _ h => h) (Or.inl ⟨by rfl, ?_⟩) hS0 ?_
      rotate_left
      · (intro w hSw; (try dsimp only at hSw); go_simp; try with_reducible rfl)
      simp only [List.getElem_toArray, List.getElem_cons_zero, List.getElem_cons_succ, Act.put, List.setIfInBounds_toArray, List.set_cons_zero, List.set_cons_succ]
      refine wpAnyH_take (i := 7) (v := ?_) rfl (by kernel_rfl) (by kernel_rfl) (by kernel_rfl) (fun _ _ _ h => h) (Or.inl ⟨by rfl, ?_⟩) hS0 ?_
      rotate_left
      · (intro w hSw; (try dsimp only at hSw); go_simp; try with_reducible rfl)
      simp only [List.getElem_toArray, List.getElem_cons_zero, List.getElem_cons_succ, Act.put, List.setIfInBounds_toArray, List.set_cons_zero, List.set_cons_succ]
      refine wpAnyH_take (i := 8) (v := ?_) rfl (by kernel_rfl) (by kernel_rfl) (by kernel_rfl) (fun _ _ _ h => h) (Or.inl ⟨by rfl, ?_⟩) hS0 ?_
      rotate_left
      · (intro w hSw; (try dsimp only at hSw); go_simp; try with_reducible rfl)
      simp only [List.getElem_toArray, List.getElem_cons_zero, List.getElem_cons_succ, Act.put, List.setIfInBounds_toArray, List.set_cons_zero, List.set_cons_succ]
      refine wpAnyH_take (i := 10) (v := ?_) rfl (by kernel_rfl) (by kernel_rfl) (by kernel_rfl) (fun _ _ _ h => h) (Or.inl ⟨by rfl, ?_⟩) hS0 ?_
      rotate_left
      · (intro w hSw; (try dsimp only at hSw); go_simp; try with_reducible rfl)
      simp only [List.getElem_toArray, List.getElem_cons_zero, List.getElem_cons_succ, Act.put, List.setIfInBounds_toArray, List.set_cons_zero, List.set_cons_succ]
      refine wpAnyH_ready (rs := [4]) (by kernel_rfl) (by simp) ?_
      refine AllReadyH.cons rfl (fun K hK => ?_) AllReadyH.nil
      go_simp
      refine (hl2 _).mono ?_
      rintro e w' ⟨rfl, rfl⟩
      (try go_simp)
      refine hK.out _ _ hS0 (fun _ => ?_)
      clear hK K
      simp only [List.getElem_toArray, List.getElem_cons_zero, List.getElem_cons_succ, Act.put, List.setIfInBounds_toArray, List.set_cons_zero, List.set_cons_succ]
      refine wpAnyH_take (i := 9) (v := ?_) rfl (by kernel_rfl) (by kernel_rfl) (by kernel_rfl) (fun _ _ _ h => h) (Or.inl ⟨by rfl, ?_⟩) hS0 ?_
      rotate_left
      · (intro w hSw; (try dsimp only at hSw); go_simp; try with_reducible rfl)
      simp only [List.getElem_toArray, List.getElem_cons_zero, List.getElem_cons_succ, Act.put, List.setIfInBounds_toArray, List.set_cons_zero, List.set_cons_succ]
      refine wpAnyH_ready (rs := [11]) (by kernel_rfl) (by simp) ?_
      refine AllReadyH.cons rfl (fun K hK => ?_) AllReadyH.nil
      rw [if_pos (show Region.wanted _ _ = true from by rfl)]
      refine wp_store_row 39 _ _ rfl g #[.int .u8 (a.toNat : Int), .int .u8 (t.toNat : Int), .int .u8 0, .bool false] rfl rfl 39 _ hZ_0 (by kernel_rfl) rfl (by kernel_rfl) ?_
      refine hK.out _ _ (by first | exact below_setRow hS0 (by omega) _ | exact hS0.setRow_far (by omega) _ | exact (World.cell?_of_block (setRow_block _ _ _ _ (by first | omega | (dsimp only; omega)))).trans hS0 | exact hS0.only (only_setRow _ _ _) (fun k e => by (have e : k = _ := e); omega)) (fun hS1 => ?_)
      clear hK K
      have hZ_1 := hZ_0.setRow #[.int .u8 (a.toNat : Int), .int .u8 (t.toNat : Int), .int .u8 0, .bool false]
      clear hS0
      generalize v0.setRow g #[.int .u8 (a.toNat : Int), .int .u8 (t.toNat : Int), .int .u8 0, .bool false] = v1 at *
      simp only [List.getElem_toArray, List.getElem_cons_zero, List.getElem_cons_succ, Act.put, List.setIfInBounds_toArray, List.set_cons_zero, List.set_cons_succ]
      refine wpAnyH_take (i := 12) (v := ?_) rfl (by kernel_rfl) (by kernel_rfl) (by kernel_rfl) (fun _ _ _ h => h) (Or.inl ⟨by rfl, ?_⟩) hS1 ?_
      rotate_left
      · (intro w hSw; (try dsimp only at hSw); go_simp; try with_reducible rfl)
      simp only [List.getElem_toArray, List.getElem_cons_zero, List.getElem_cons_succ, Act.put, List.setIfInBounds_toArray, List.set_cons_zero, List.set_cons_succ]
      refine wpAnyH_done (by kernel_rfl) ?_ _
      have hbZ := hS1
      clear hS1
      have hZ := hZ_1
      go_wp2_with fail
      refine bodyPost_ret (results_ct rfl rfl hZ Tryd.underlying39 rfl (by kernel_rfl)) rfl ⟨rfl, by rw [HG.out]; exact hbZ⟩
    · have e0 : ∀ h, (⟨#[a, p1, p2, 46]⟩ : ByteArray)[0]'h = a := fun _ => rfl
      have e1 : ∀ h, (⟨#[a, p1, p2, 46]⟩ : ByteArray)[1]'h = p1 := fun _ => rfl
      have e2 : ∀ h, (⟨#[a, p1, p2, 46]⟩ : ByteArray)[2]'h = p2 := fun _ => rfl
      have e3 : ∀ h, (⟨#[a, p1, p2, 46]⟩ : ByteArray)[3]'h = 46 := fun _ => rfl
      have h4 := h4.resolve_left hn
      have hn0 : ((n.toNat : Int) == 0) = false := u8_ne hn
      generalize Lib.indexByte [84, 68, 66, 78] n = ib at *
      clear hn h3
      have hZ : Blk (w.alloc (.cells #[.int .u8 0, .int .u8 0, .int .u8 0, .bool false] 39)) w.heap.size 39 #[.int .u8 0, .int .u8 0, .int .u8 0, .bool false] := Blk.new _ _ _
      have hbZ : Below w.heap.size w (w.alloc (.cells #[.int .u8 0, .int .u8 0, .int .u8 0, .bool false] 39)) := Bl.alloc (Below.refl _ _) _
      go_enter Tryd.func19, Tryd.ntmps19
      go_wp2_with fail
      refine Cl.p (hl1 _) ?_
      go_wp2_with fail
      refine Cl.p (hi _) ?_
      go_wp2_with fail
      refine Cl.p (hi2 _) ?_
      go_wp2_with fail
      generalize w.alloc (.cells #[.int .u8 0, .int .u8 0, .int .u8 0, .bool false] 39) = w1 at *
      obtain ⟨g, hg⟩ : ∃ x, w.heap.size = x := ⟨_, rfl⟩
      rw [hg] at hZ hbZ ⊢
      have HG := hide hg
      clear hg
      refine wp_region_held_drew (S := fun W => Below g w W) (by kernel_rfl) (by first | exact hbZ.drew | exact hbZ | exact Below.drew hbZ) (fun hS0 => ?_)
      have hZ_0 : Blk w1.drew g 39 #[.int .u8 0, .int .u8 0, .int .u8 0, .bool false] := by first | exact hZ.drew | exact hZ
      clear hbZ hZ
      change wpAnyH _ _ _ _ _ 13 #[false, false, false, false, false, false, false, false, false, false, false, false, false] _ _
      generalize w1.drew = v0 at *
      refine wpAnyH_take (i := 0) (v := ?_) rfl (by kernel_rfl) (by kernel_rfl) (by kernel_rfl) (fun _ _ _ h => h) (Or.inl ⟨by rfl, ?_⟩) hS0 ?_
      rotate_left
      · (intro w hSw; (try dsimp only at hSw); go_simp; try with_reducible rfl)
      simp only [List.getElem_toArray, List.getElem_cons_zero, List.getElem_cons_succ, Act.put, List.setIfInBounds_toArray, List.set_cons_zero, List.set_cons_succ]
      refine wpAnyH_take (i := 1) (v := ?_) rfl (by kernel_rfl) (by kernel_rfl) (by kernel_rfl) (fun _ _ _ h => h) (Or.inl ⟨by rfl, ?_⟩) hS0 ?_
      rotate_left
      · (intro w hSw; (try dsimp only at hSw); go_simp; try with_reducible rfl)
      simp only [List.getElem_toArray, List.getElem_cons_zero, List.getElem_cons_succ, Act.put, List.setIfInBounds_toArray, List.set_cons_zero, List.set_cons_succ]
      refine wpAnyH_take (i := 2) (v := ?_) rfl (by kernel_rfl) (by kernel_rfl) (by kernel_rfl) (fun _ _ _ h => h) (Or.inl ⟨by rfl, ?_⟩) hS0 ?_
      rotate_left
      · (intro w hSw; (try dsimp only at hSw); go_simp; try with_reducible rfl)
      simp only [List.getElem_toArray, List.getElem_cons_zero, List.getElem_cons_succ, Act.put, List.setIfInBounds_toArray, List.set_cons_zero, List.set_cons_succ]
      refine wpAnyH_take (i := 3) (v := ?_) rfl (by kernel_rfl) (by kernel_rfl) (by kernel_rfl) (fun _ _ _ h => h) (Or.inl ⟨by rfl, ?_⟩) hS0 ?_
      rotate_left
      · (intro w hSw; (try dsimp only at hSw); go_simp; try with_reducible rfl)
      simp only [List.getElem_toArray, List.getElem_cons_zero, List.getElem_cons_succ, Act.put, List.setIfInBounds_toArray, List.set_cons_zero, List.set_cons_succ]
      refine wpAnyH_take (i := 5) (v := ?_) rfl (by kernel_rfl) (by kernel_rfl) (by kernel_rfl) (fun _ _ _ h => h) (Or.inl ⟨by rfl, ?_⟩) hS0 ?_
      rotate_left
      · (intro w hSw; (try dsimp only at hSw); go_simp; try with_reducible rfl)
      simp only [List.getElem_toArray, List.getElem_cons_zero, List.getElem_cons_succ, Act.put, List.setIfInBounds_toArray, List.set_cons_zero, List.set_cons_succ]
      refine wpAnyH_take (i := 6) (v := ?_) rfl (by kernel_rfl) (by kernel_rfl) (by kernel_rfl) (fun _ _ _ h => h) (Or.inl ⟨by rfl, ?_⟩) hS0 ?_
      rotate_left
      · (intro w hSw; (try dsimp only at hSw); go_simp; try with_reducible rfl)
      simp only [List.getElem_toArray, List.getElem_cons_zero, List.getElem_cons_succ, Act.put, List.setIfInBounds_toArray, List.set_cons_zero, List.set_cons_succ]
      refine wpAnyH_take (i := 7) (v := ?_) rfl (by kernel_rfl) (by kernel_rfl) (by kernel_rfl) (fun _ _ _ h => h) (Or.inl ⟨by rfl, ?_⟩) hS0 ?_
      rotate_left
      · (intro w hSw; (try dsimp only at hSw); go_simp; try with_reducible rfl)
      simp only [List.getElem_toArray, List.getElem_cons_zero, List.getElem_cons_succ, Act.put, List.setIfInBounds_toArray, List.set_cons_zero, List.set_cons_succ]
      refine wpAnyH_take (i := 8) (v := ?_) rfl (by kernel_rfl) (by kernel_rfl) (by kernel_rfl) (fun _ _ _ h => h) (Or.inl ⟨by rfl, ?_⟩) hS0 ?_
      rotate_left
      · (intro w hSw; (try dsimp only at hSw); go_simp; try with_reducible rfl)
      simp only [List.getElem_toArray, List.getElem_cons_zero, List.getElem_cons_succ, Act.put, List.setIfInBounds_toArray, List.set_cons_zero, List.set_cons_succ]
      refine wpAnyH_take (i := 10) (v := ?_) rfl (by kernel_rfl) (by kernel_rfl) (by kernel_rfl) (fun _ _ _ h => h) (Or.inl ⟨by rfl, ?_⟩) hS0 ?_
      rotate_left
      · (intro w hSw; (try dsimp only at hSw); go_simp; try with_reducible rfl)
      simp only [List.getElem_toArray, List.getElem_cons_zero, List.getElem_cons_succ, Act.put, List.setIfInBounds_toArray, List.set_cons_zero, List.set_cons_succ]
      refine wpAnyH_ready (rs := [4]) (by kernel_rfl) (by simp) ?_
      refine AllReadyH.cons rfl (fun K hK => ?_) AllReadyH.nil
      go_simp
      refine (hl2 _).mono ?_
      rintro e w' ⟨rfl, rfl⟩
      (try go_simp)
      refine hK.out _ _ hS0 (fun _ => ?_)
      clear hK K
      simp only [List.getElem_toArray, List.getElem_cons_zero, List.getElem_cons_succ, Act.put, List.setIfInBounds_toArray, List.set_cons_zero, List.set_cons_succ]
      refine wpAnyH_take (i := 9) (v := ?_) rfl (by kernel_rfl) (by kernel_rfl) (by kernel_rfl) (fun _ _ _ h => h) (Or.inl ⟨by rfl, ?_⟩) hS0 ?_
      rotate_left
      · (intro w hSw; (try dsimp only at hSw); go_simp; try with_reducible rfl)
      simp only [List.getElem_toArray, List.getElem_cons_zero, List.getElem_cons_succ, Act.put, List.setIfInBounds_toArray, List.set_cons_zero, List.set_cons_succ]
      refine wpAnyH_ready (rs := [11]) (by kernel_rfl) (by simp) ?_
      refine AllReadyH.cons rfl (fun K hK => ?_) AllReadyH.nil
      rw [if_pos (show Region.wanted _ _ = true from by rfl)]
      refine wp_store_row 39 _ _ rfl g #[.int .u8 (a.toNat : Int), .int .u8 (t.toNat : Int), .int .u8 (n.toNat : Int), .bool false] rfl rfl 39 _ hZ_0 (by kernel_rfl) rfl (by kernel_rfl) ?_
      refine hK.out _ _ (by first | exact below_setRow hS0 (by omega) _ | exact hS0.setRow_far (by omega) _ | exact (World.cell?_of_block (setRow_block _ _ _ _ (by first | omega | (dsimp only; omega)))).trans hS0 | exact hS0.only (only_setRow _ _ _) (fun k e => by (have e : k = _ := e); omega)) (fun hS1 => ?_)
      clear hK K
      have hZ_1 := hZ_0.setRow #[.int .u8 (a.toNat : Int), .int .u8 (t.toNat : Int), .int .u8 (n.toNat : Int), .bool false]
      clear hS0
      generalize v0.setRow g #[.int .u8 (a.toNat : Int), .int .u8 (t.toNat : Int), .int .u8 (n.toNat : Int), .bool false] = v1 at *
      simp only [List.getElem_toArray, List.getElem_cons_zero, List.getElem_cons_succ, Act.put, List.setIfInBounds_toArray, List.set_cons_zero, List.set_cons_succ]
      refine wpAnyH_take (i := 12) (v := ?_) rfl (by kernel_rfl) (by kernel_rfl) (by kernel_rfl) (fun _ _ _ h => h) (Or.inl ⟨by rfl, ?_⟩) hS1 ?_
      rotate_left
      · (intro w hSw; (try dsimp only at hSw); go_simp; try with_reducible rfl)
      simp only [List.getElem_toArray, List.getElem_cons_zero, List.getElem_cons_succ, Act.put, List.setIfInBounds_toArray, List.set_cons_zero, List.set_cons_succ]
      refine wpAnyH_done (by kernel_rfl) ?_ _
      have hbZ := hS1
      clear hS1
      have hZ := hZ_1
      go_wp2_with fail
      refine bodyPost_ret (results_ct rfl rfl hZ Tryd.underlying39 rfl (by kernel_rfl)) rfl ⟨rfl, by rw [HG.out]; exact hbZ⟩
end Go.Proofs.YtodimiffmmkndaaDoor
