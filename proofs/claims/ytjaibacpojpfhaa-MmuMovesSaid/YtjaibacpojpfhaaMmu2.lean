/-
  Package mmu: Get, Reset, Last, Banks, Of, New, Clone, Phys, Zero, Stack, Port.
-/
import Derived.Test.YtjaibacpojpfhaaMmu
import Derived.Test.YtjaibacpojpfhaaPhys
namespace Go.Proofs.Ytjaibacpojpfhaa
open Go.RowKit Go.Shelf Pl
attribute [local go_sem] Oper.semAt_some

/-- What Get hands back: of the lowest page of the mask. -/
def getK (k : Nat) (A : Nat → Nat) (l : Nat) : Nat := match eL (tbN k) 8 with | [] => l | x :: _ => A x.1
theorem getK_nil {k : Nat} {A : Nat → Nat} {l : Nat} (h : eL (tbN k) 8 = []) : getK k A l = l := by unfold getK; rw [h]
theorem getK_cons {k : Nat} {A : Nat → Nat} {l : Nat} {x : Pg} (h : [x] <+: eL (tbN k) 8) : getK k A l = A x.1 := by
  obtain ⟨t, ht⟩ := h
  unfold getK
  rw [← ht]
  rfl
set_option maxRecDepth 100000 in
set_option maxHeartbeats 8000000 in
theorem mmGet_calls (g k l : Nat) (A : Nat → Nat) (w : World) (hk : k < 256) (hM : MB w g A l) :
    Calls Try.prog 19 #[.pointer (some ⟨g, 0, none⟩), .int .u8 (k : Int)] w
      fun e w' => e = .returned (.int .u8 (getK k A l : Nat)) ∧ MB w' g A (getK k A l) ∧ Only (fun j => j = g) w w' := by
  have hg := hM.lt
  refine (callsIn_wide (n := 3)).1 ?_
  refine callsIn_of_wp_marks Try.func19 rfl trivial ?_ rfl
  simp only [Try.ntmps19, List.size_toArray, List.length_cons, List.length_nil, Nat.reduceAdd, Nat.reduceSub, Array.replicate_succ, Array.replicate_zero, List.push_toArray, List.append_toArray, List.nil_append, List.cons_append]
  gi_wp2_with fail
  refine ⟨trivial, (callsIn_wide.2 (mmEach_calls k _)).mono ?_⟩
  rintro e w3 ⟨rfl, rfl⟩
  gi_wp2_with fail
  have hP3 : Blk ((w.alloc (.cells #[.pointer (some ⟨g, 0, none⟩)] 25)).alloc (.cells #[.int .u8 (k : Int)] 5)) w.heap.size 25 #[.pointer (some ⟨g, 0, none⟩)] := (Blk.new _ _ _).alloc _
  have hR3 : Blk ((w.alloc (.cells #[.pointer (some ⟨g, 0, none⟩)] 25)).alloc (.cells #[.int .u8 (k : Int)] 5)) (w.heap.size + 1) 5 #[.int .u8 (k : Int)] := Blk.newAt (by simp)
  have hM3 : MB ((w.alloc (.cells #[.pointer (some ⟨g, 0, none⟩)] 25)).alloc (.cells #[.int .u8 (k : Int)] 5)) g A l := (Blk.alloc hM _).alloc _
  have hO3 : Only (fun j => j = g) w ((w.alloc (.cells #[.pointer (some ⟨g, 0, none⟩)] 25)).alloc (.cells #[.int .u8 (k : Int)] 5)) := ((Only.refl _ _).alloc _).alloc _
  have hs3 : ((w.alloc (.cells #[.pointer (some ⟨g, 0, none⟩)] 25)).alloc (.cells #[.int .u8 (k : Int)] 5)).heap.size = w.heap.size + 2 := by simp
  generalize (w.alloc (.cells #[.pointer (some ⟨g, 0, none⟩)] 25)).alloc (.cells #[.int .u8 (k : Int)] 5) = w3 at *
  refine wpIn_rangeFunc_ownG rfl (by decide) (gf := 35) (lb := #[.pointer (some ⟨w.heap.size + 1, 0, none⟩)]) rfl trivial (enters_of Try.func35 (by kernel_rfl) rfl)
    (each1_stops k hk 2 (w.heap.size + 1) w3 hR3) (fun h k => h.t k) (KpS.b (by omega)) (Below.refl _ _) (fun _ => rfl)
    (fun pre W => pre = [] ∧ MB W g A l ∧ Blk W w.heap.size 25 #[.pointer (some ⟨g, 0, none⟩)] ∧ Only (fun j => j = g) w W)
    (fun c pre W => (c = .exit 0) ∧ (∃ x : Pg, pre = [x]) ∧ MB W g A (match pre with | [] => l | x :: _ => A x.1) ∧ Blk W w.heap.size 25 #[.pointer (some ⟨g, 0, none⟩)] ∧ Only (fun j => j = g) w W)
    (OwnFrom.and (fun _ _ _ _ hs _ _ => hs) (OwnFrom.and (Own.from (blk_own g 53 (fun _ => mc A l)) _) (OwnFrom.and (Own.from (blk_own w.heap.size 25 (fun _ => #[.pointer (some ⟨g, 0, none⟩)])) _) (ownFrom_only (by omega)))))
    (fun c => OwnFrom.and (fun _ _ _ _ hs _ _ => hs) (OwnFrom.and (fun _ _ _ _ hs _ _ => hs) (OwnFrom.and (Own.from (blk_own g 53 (fun pre : List Pg => mc A (match pre with | [] => l | x :: _ => A x.1))) _) (OwnFrom.and (Own.from (blk_own w.heap.size 25 (fun _ => #[.pointer (some ⟨g, 0, none⟩)])) _) (ownFrom_only (by omega))))))
    ⟨rfl, hM3, hP3, hO3⟩
    (fun x => { tmps := #[.pointer (some ⟨g, 0, none⟩), .int .u8 (k : Int), .pointer (some ⟨w.heap.size, 0, none⟩), undef, .int .u8 0, .int .i64 (x.1 : Int), .pointer (some ⟨g, 0, none⟩), .bool false, .int .u8 (k : Int), .func (.func 35) #[] #[.pointer (some ⟨w.heap.size + 1, 0, none⟩)], .int .i64 (x.1 : Int), undef, undef, undef, undef, undef, undef, undef, undef, undef, undef, undef, undef, undef], defers := [] })
    ?assign ?body ?done ?stop
  case assign =>
    intro lp x W K hK
    gi_wp2_with fail
    exact hK
  case body =>
    rintro lp pre ⟨x, hx⟩ W ⟨rfl, hMW, hP, hO⟩ _
    have y0 : W.drew.cell? ⟨w.heap.size, 0, none⟩ = some (.pointer (some ⟨g, 0, none⟩)) := hP.cell 0
    have y2 : W.drew.cell? ⟨g, x, none⟩ = some (.int .u8 (A x : Int)) := MB.get hMW x hx
    have y4 : W.drew.cell? ⟨g, 8, none⟩ = some (.int .u8 (l : Int)) := Blk.cell hMW 8
    have y3 : W.drew.frozen? ⟨g, 8, none⟩ = false := Blk.frozen hMW 8
    have hx' : (x : Int) < 8 := by omega
    have hx2 : (decide ((8 : Int) ≤ (x : Int))) = false := by rw [decide_eq_false_iff_not]; omega
    dsimp only
    gi_wp2_with fail
    have yS : (W.drew.setCell ⟨g, 8, none⟩ (.int .u8 (A x : Int))).cell? ⟨w.heap.size, 0, none⟩ = some (.pointer (some ⟨g, 0, none⟩)) ∧ (W.drew.setCell ⟨g, 8, none⟩ (.int .u8 (A x : Int))).cell? ⟨g, x, none⟩ = some (.int .u8 (A x : Int)) :=
      ⟨(Blk.far hP.drew (p := ⟨g, 8, none⟩) (by simp; omega) (.int .u8 (A x : Int))).cell 0, MB.get (w := W.drew.setCell ⟨g, 8, none⟩ (.int .u8 (A x : Int))) (MB.setLast (w := W.drew) hMW (A x)) x hx⟩
    refine wpIn_region_round (S := fun w' => w'.cell? ⟨w.heap.size, 0, none⟩ = some (.pointer (some ⟨g, 0, none⟩)) ∧ w'.cell? ⟨g, x, none⟩ = some (.int .u8 (A x : Int))) _ (by kernel_rfl) (noDefer_spec (by kernel_rfl)) ⟨y0, y2⟩ (fun hHeld => ?_) (fun _ _ h => h)
    change wpAnyH _ _ _ _ _ 10 #[false, false, false, false, false, false, false, false, false, false] _ _
    refine wpAnyH_take (i := 0) (v := ?_) rfl (by kernel_rfl) (by kernel_rfl) (by kernel_rfl) (fun _ _ _ h => h) (Or.inl ⟨by rfl, ?_⟩) (by assumption) ?_
    rotate_left
    · (intro w hSw; (try dsimp only at hSw); go_simp; try with_reducible rfl)
    simp only [List.getElem_toArray, List.getElem_cons_zero, List.getElem_cons_succ, Act.put, List.setIfInBounds_toArray, List.set_cons_zero, List.set_cons_succ]
    refine wpAnyH_take (i := 1) (v := ?_) rfl (by kernel_rfl) (by kernel_rfl) (by kernel_rfl) (fun _ _ _ h => h) (Or.inl ⟨by rfl, ?_⟩) (by assumption) ?_
    rotate_left
    · (intro w hSw; (try dsimp only at hSw); go_simp; try with_reducible rfl)
    simp only [List.getElem_toArray, List.getElem_cons_zero, List.getElem_cons_succ, Act.put, List.setIfInBounds_toArray, List.set_cons_zero, List.set_cons_succ]
    refine wpAnyH_take (i := 2) (v := ?_) rfl (by kernel_rfl) (by kernel_rfl) (by kernel_rfl) (fun _ _ _ h => h) (Or.inl ⟨by rfl, ?_⟩) (by assumption) ?_
    rotate_left
    · (intro w hSw; (try dsimp only at hSw); go_simp; try with_reducible rfl)
    simp only [List.getElem_toArray, List.getElem_cons_zero, List.getElem_cons_succ, Act.put, List.setIfInBounds_toArray, List.set_cons_zero, List.set_cons_succ]
    refine wpAnyH_take (i := 3) (v := ?_) rfl (by kernel_rfl) (by kernel_rfl) (by kernel_rfl) (fun _ _ _ h => h) (Or.inl ⟨by rfl, ?_⟩) (by assumption) ?_
    rotate_left
    · (intro w hSw; (try dsimp only at hSw); go_simp; try with_reducible rfl)
    simp only [List.getElem_toArray, List.getElem_cons_zero, List.getElem_cons_succ, Act.put, List.setIfInBounds_toArray, List.set_cons_zero, List.set_cons_succ]
    refine wpAnyH_take (i := 4) (v := ?_) rfl (by kernel_rfl) (by kernel_rfl) (by kernel_rfl) (fun _ _ _ h => h) (Or.inl ⟨by rfl, ?_⟩) (by assumption) ?_
    rotate_left
    · (intro w hSw; (try dsimp only at hSw); go_simp; try with_reducible rfl)
    simp only [List.getElem_toArray, List.getElem_cons_zero, List.getElem_cons_succ, Act.put, List.setIfInBounds_toArray, List.set_cons_zero, List.set_cons_succ]
    refine wpAnyH_take (i := 5) (v := ?_) rfl (by kernel_rfl) (by kernel_rfl) (by kernel_rfl) (fun _ _ _ h => h) (Or.inl ⟨by rfl, ?_⟩) (by assumption) ?_
    rotate_left
    · (intro w hSw; (try dsimp only at hSw); go_simp; try with_reducible rfl)
    simp only [List.getElem_toArray, List.getElem_cons_zero, List.getElem_cons_succ, Act.put, List.setIfInBounds_toArray, List.set_cons_zero, List.set_cons_succ]
    refine wpAnyH_take (i := 6) (v := ?_) rfl (by kernel_rfl) (by kernel_rfl) (by kernel_rfl) (fun _ _ _ h => h) (Or.inl ⟨by rfl, ?_⟩) (by assumption) ?_
    rotate_left
    · (intro w hSw; (try dsimp only at hSw); go_simp; try with_reducible rfl)
    simp only [List.getElem_toArray, List.getElem_cons_zero, List.getElem_cons_succ, Act.put, List.setIfInBounds_toArray, List.set_cons_zero, List.set_cons_succ]
    refine wpAnyH_take (i := 7) (v := ?_) rfl (by kernel_rfl) (by kernel_rfl) (by kernel_rfl) (fun _ _ _ h => h) (Or.inl ⟨by rfl, ?_⟩) (by assumption) ?_
    rotate_left
    · (intro w hSw; (try dsimp only at hSw); go_simp; try with_reducible rfl)
    simp only [List.getElem_toArray, List.getElem_cons_zero, List.getElem_cons_succ, Act.put, List.setIfInBounds_toArray, List.set_cons_zero, List.set_cons_succ]
    refine wpAnyH_take (i := 8) (v := ?_) rfl (by kernel_rfl) (by kernel_rfl) (by kernel_rfl) (fun _ _ _ h => h) (Or.inl ⟨by rfl, ?_⟩) (by assumption) ?_
    rotate_left
    · (intro w hSw; (try dsimp only at hSw); go_simp; try with_reducible rfl)
    simp only [List.getElem_toArray, List.getElem_cons_zero, List.getElem_cons_succ, Act.put, List.setIfInBounds_toArray, List.set_cons_zero, List.set_cons_succ]
    refine wpAnyH_ready (rs := [9]) (by kernel_rfl) (by simp) ?_
    refine AllReadyH.cons rfl (fun K hK => ?_) AllReadyH.nil
    go_simp
    refine hK.out _ _ yS (fun hHeld => ?_)
    clear hK K
    refine wpAnyH_done (by kernel_rfl) ?_ _
    dsimp only [OnlyNormal]
    gi_wp2_with fail
    refine ⟨((KeepsOthers.setCell _ _ _).trans (KeepsOthers.drew _)).from _, rfl, ⟨⟨x, hx⟩, rfl⟩, ?_, ?_, (hO.setCell ⟨g, 8, none⟩ rfl _).drew⟩
    · exact MB.setLast hMW (A x)
    · exact (Blk.far hP (p := ⟨g, 8, none⟩) (by simp; omega) (.int .u8 (A x : Int)))
  case done =>
    rintro D ys W hD rfl ⟨he, hMW, hP, hO⟩ hK
    have hgk := getK_nil (A := A) (l := l) he
    have HG := hide hgk
    clear hgk he
    have y0 : W.cell? ⟨w.heap.size, 0, none⟩ = some (.pointer (some ⟨g, 0, none⟩)) := hP.cell 0
    have y2 : W.cell? ⟨g, 8, none⟩ = some (.int .u8 (l : Int)) := Blk.cell hMW 8
    gi_wp2_with fail
    refine ⟨by simp, .inl ⟨_, _, rfl, run_takeDeferred hK, ?_⟩⟩
    refine ⟨_, results_tmp rfl _ _ _, by rw [HG.out]; rfl, ?_, ?_⟩
    · rw [HG.out]
      exact (blk_own g 53 (fun _ : Unit => mc A l)).putObj (s := ()) _ hMW hK rfl
    · exact (ownFrom_only (β := Unit) (S := fun j => j = g) (w := w) (B := w3.heap.size) (by omega)).putObj (s := ()) _ hO hD hK rfl
  case stop =>
    rintro D cc pre W hD hpre ⟨rfl, ⟨x, rfl⟩, hMW, hP, hO⟩ hK
    have hgk := getK_cons (A := A) (l := l) hpre
    have hMW : MB W g A (A x.1) := hMW
    have HG := hide hgk
    clear hgk hpre
    have y0 : W.cell? ⟨w.heap.size, 0, none⟩ = some (.pointer (some ⟨g, 0, none⟩)) := hP.cell 0
    have y2 : W.cell? ⟨g, 8, none⟩ = some (.int .u8 (A x.1 : Int)) := Blk.cell hMW 8
    gi_wp2_with fail
    refine ⟨by simp, .inl ⟨_, _, rfl, run_takeDeferred hK, ?_⟩⟩
    refine ⟨_, results_tmp rfl _ _ _, by rw [HG.out]; rfl, ?_, ?_⟩
    · rw [HG.out]
      exact (blk_own g 53 (fun _ : Unit => mc A (A x.1))).putObj (s := ()) _ hMW hK rfl
    · exact (ownFrom_only (β := Unit) (S := fun j => j = g) (w := w) (B := w3.heap.size) (by omega)).putObj (s := ()) _ hO hD hK rfl
end Go.Proofs.Ytjaibacpojpfhaa
