/-
  irq.Status.
-/
import Derived.Test.YtemfdkoipeedeaaIrq2
namespace Go.Proofs.Ytemfdkoipeedeaa
set_option linter.unusedSimpArgs false
set_option linter.unusedVariables false
set_option maxRecDepth 10000
open Go.RowKit Go.Shelf Pl
attribute [local go_sem] Oper.semAt_some

/-- Does this one ask? -/
def lkB (r m u i j : Bool) : Nat → Bool
  | 1 => r
  | 2 => m
  | 3 => u
  | 4 => i
  | 5 => j
  | _ => false
theorem askA_get (r m u i j : Bool) (x : Nat) (h : x ≤ 5) : (askA r m u i j)[x]? = some (.bool (lkB r m u i j x)) := by
  match x, h with
  | 0, _ | 1, _ | 2, _ | 3, _ | 4, _ | 5, _ => rfl
/-- Status behind the kinds of a list. -/
def soS (u i j : Bool) (out x : Nat) : Nat := if x < 3 then out else wth out (5 - (x : Int)) (lkB false false u i j x)
def soL (u i j : Bool) (l : List Kd) : Nat := l.foldl (fun out x => soS u i j out x.1) 0
theorem soL_snoc (u i j : Bool) (l : List Kd) (x : Kd) : soL u i j (l ++ [x]) = soS u i j (soL u i j l) x.1 := by simp [soL]
theorem soS_lt (u i j : Bool) (out x : Nat) (h : out < 256) : soS u i j out x < 256 := by
  unfold soS
  split
  · exact h
  · exact wth_lt h
theorem soL_lt (u i j : Bool) (l : List Kd) : soL u i j l < 256 := by
  suffices H : ∀ (l : List Kd) (o : Nat), o < 256 → l.foldl (fun out x => soS u i j out x.1) o < 256 from H l 0 (by omega)
  intro l
  induction l with
  | nil => exact fun o h => h
  | cons x l ih => exact fun o h => ih _ (soS_lt u i j o x.1 h)
def stB (u i j : Bool) : Nat := 4 * u.toNat + 2 * i.toNat + j.toNat
theorem soL_all (u i j : Bool) : soL u i j (kL 5) = stB u i j := by
  cases u <;> cases i <;> cases j <;> decide
set_option maxRecDepth 100000 in
set_option maxHeartbeats 1000000 in
theorem iqStatus_calls (o : Option Addr) (d : Nat) (u i j : Bool) (w : World) (hI : QV w o d u) :
    Calls Try.prog 80 #[.pointer o, .bool i, .bool j] w fun e w' => e = .returned (.int .u8 (stB u i j : Nat)) ∧ Below w.heap.size w w' := by
  refine (callsIn_wide (n := 3)).1 ?_
  refine callsIn_of_wp_marks Try.func80 rfl trivial ?_ rfl
  simp only [Try.ntmps80, List.size_toArray, List.length_cons, List.length_nil, Nat.reduceAdd, Nat.reduceSub, Array.replicate_succ, Array.replicate_zero, List.push_toArray, List.append_toArray, List.nil_append, List.cons_append]
  gi_wp2_with fail
  refine ⟨trivial, (callsIn_wide.2 (iqAsks_calls o d u false false i j _ (hI.alloc _))).mono ?_⟩
  rintro e w2 ⟨rfl, hb2⟩
  have hs1 : (w.alloc (.cells #[.int .u8 0] 5)).heap.size = w.heap.size + 1 := by simp
  have hO2 : Blk w2 w.heap.size 5 #[.int .u8 0] := (Blk.new w _ _).below hb2 (by simp)
  rw [hs1] at hb2
  have hsz2 := hb2.size
  rw [hs1] at hsz2
  have hb02 : Below w.heap.size w w2 := (Bl.alloc (Below.refl _ _) _).trans (hb2.mono (by omega))
  unfold askA
  gi_wp2_with fail
  have hL3 : Blk (w2.alloc (.cells #[.bool false, .bool false, .bool false, .bool u, .bool i, .bool j] 154)) w2.heap.size 154 (askA false false u i j) := Blk.new _ _ _
  have hO3 : Blk (w2.alloc (.cells #[.bool false, .bool false, .bool false, .bool u, .bool i, .bool j] 154)) w.heap.size 5 #[.int .u8 0] := hO2.alloc _
  have hb3 : Below w.heap.size w (w2.alloc (.cells #[.bool false, .bool false, .bool false, .bool u, .bool i, .bool j] 154)) := Bl.alloc hb02 _
  have hs3 : (w2.alloc (.cells #[.bool false, .bool false, .bool false, .bool u, .bool i, .bool j] 154)).heap.size = w2.heap.size + 1 := by simp
  generalize w2.alloc (.cells #[.bool false, .bool false, .bool false, .bool u, .bool i, .bool j] 154) = w3 at *
  have hlt2 := hsz2
  generalize w2.heap.size = G at *
  generalize hBo : w.heap.size = Bo at *
  clear hb2 hO2 hb02
  refine wpIn_rangeFunc_ownG rfl (by decide) (gf := 84) (lb := #[]) rfl trivial (enters_of Try.func84 (by kernel_rfl) rfl)
    (kinds_stops 2 w3) (fun _ _ => trivial) (fun _ _ _ _ _ _ _ _ => trivial) (Below.refl _ _) (fun _ => rfl)
    (fun pre W => Blk W Bo 5 #[.int .u8 (soL u i j pre : Nat)] ∧ Blk W G 154 (askA false false u i j) ∧ Below Bo w W)
    (fun _ _ _ => False)
    (OwnFrom.and (Own.from (blk_own Bo 5 (fun pre => #[.int .u8 (soL u i j pre : Nat)])) _) (OwnFrom.and (Own.from (blk_own G 154 (fun _ => askA false false u i j)) _) (ownFrom_below (by omega) (by omega))))
    (fun _ _ _ _ _ hs _ _ => hs)
    ⟨hO3, hL3, hb3⟩
    (fun x => { tmps := #[.pointer o, .bool i, .bool j, undef, undef, undef, .int .u8 0, .pointer (some ⟨Bo, 0, none⟩), .pointer (some ⟨G, 0, none⟩), .int .u8 (x.1 : Int), undef, .pointer o, .bool i, .bool j, .agg #[.bool false, .bool false, .bool i, .bool j], .agg #[.bool false, .bool false, .bool false, .bool u, .bool i, .bool j], .int .u8 (x.1 : Int), undef, undef, undef, undef, undef, undef, undef, undef, undef, undef, undef], defers := [] })
    ?assign ?body ?done ?stop
  case assign =>
    intro lp x W K hK
    gi_wp2_with fail
    exact hK
  case body =>
    rintro lp pre ⟨x, hx1, hx5⟩ W ⟨hO, hL, hb⟩ _
    have hS := soL_snoc u i j pre ⟨x, hx1, hx5⟩
    have hlt := soL_lt u i j pre
    generalize soL u i j pre = S at *
    dsimp only at hS
    dsimp only
    gi_wp2_with fail
    refine ⟨trivial, (callsIn_wide.2 (iqBit_calls x _)).mono ?_⟩
    rintro e w4 ⟨rfl, rfl⟩
    by_cases h3 : x < 3
    · have e1 : soS u i j S x = S := if_pos h3
      have e2 : kBit x = -1 := if_pos (Or.inl h3)
      rw [e1] at hS
      rw [e2]
      have HS := hide hS
      clear e1 e2 hS
      gi_wp2_with fail
      exact ⟨KeepsFrom.refl _ _, trivial, by rw [HS.out]; exact hO, hL, hb⟩
    · have e1 : soS u i j S x = wth S (5 - (x : Int)) (lkB false false u i j x) := if_neg h3
      have e2 : kBit x = 5 - (x : Int) := if_neg (by omega)
      rw [e1] at hS
      rw [e2]
      have HS := hide hS
      clear e1 e2 hS
      have i0 : (0 : Int) ≤ 5 - (x : Int) := by omega
      have y0 : W.drew.cell? ⟨Bo, 0, none⟩ = some (.int .u8 (S : Int)) := hO.cell 0
      have y1 : W.drew.cell? ⟨G, x, none⟩ = some (.bool (lkB false false u i j x)) := (hL.cell x).trans (askA_get _ _ _ _ _ x hx5)
      have y2 : W.drew.frozen? ⟨Bo, 0, none⟩ = false := hO.frozen 0
      have hx' : (x : Int) < 6 := by omega
      have hx2 : (decide ((6 : Int) ≤ (x : Int))) = false := by rw [decide_eq_false_iff_not]; omega
      gi_wp2_with fail
      have hc := octWith_calls S (5 - (x : Int)) (lkB false false u i j x) W.drew hlt
      generalize wth S (5 - (x : Int)) (lkB false false u i j x) = R at *
      have yS : (W.drew.setCell ⟨Bo, 0, none⟩ (.int .u8 (R : Int))).cell? ⟨G, x, none⟩ = some (.bool (lkB false false u i j x)) :=
        ((Blk.far hL.drew (p := ⟨Bo, 0, none⟩) (by simp; omega) (.int .u8 (R : Int))).cell x).trans (askA_get _ _ _ _ _ x hx5)
      generalize lkB false false u i j x = L at *
      refine wpIn_region_round (S := fun w' => w'.cell? ⟨G, x, none⟩ = some (.bool L)) _ (by kernel_rfl) (noDefer_spec (by kernel_rfl)) y1 (fun hHeld => ?_) (fun _ _ h => h)
      change wpAnyH _ _ _ _ _ 7 #[false, false, false, false, false, false, false] _ _
      refine wpAnyH_take (i := 1) (v := ?_) rfl (by kernel_rfl) (by kernel_rfl) (by kernel_rfl) (fun _ _ _ h => h) (Or.inl ⟨by rfl, ?_⟩) (by assumption) ?_
      rotate_left
      · (intro w hSw; (try dsimp only at hSw); go_simp; try with_reducible rfl)
      simp only [List.getElem_toArray, List.getElem_cons_zero, List.getElem_cons_succ, Act.put, List.setIfInBounds_toArray, List.set_cons_zero, List.set_cons_succ]
      refine wpAnyH_take (i := 2) (v := ?_) rfl (by kernel_rfl) (by kernel_rfl) (by kernel_rfl) (fun _ _ _ h => h) (Or.inl ⟨by rfl, ?_⟩) (by assumption) ?_
      rotate_left
      · (intro w hSw; (try dsimp only at hSw); go_simp; try with_reducible rfl)
      simp only [List.getElem_toArray, List.getElem_cons_zero, List.getElem_cons_succ, Act.put, List.setIfInBounds_toArray, List.set_cons_zero, List.set_cons_succ]
      refine wpAnyH_take (i := 3) (v := ?_) rfl (by kernel_rfl) (by kernel_rfl) (by kernel_rfl) (fun _ _ _ h => h) (Or.inl ⟨by rfl, ?_⟩) (by assumption) ?_
      rotate_left
      · (intro w hSw; (try dsimp only at hSw); go_simp; try with_reducible rfl)
      simp only [List.getElem_toArray, List.getElem_cons_zero, List.getElem_cons_succ, Act.put, List.setIfInBounds_toArray, List.set_cons_zero, List.set_cons_succ]
      refine wpAnyH_take (i := 4) (v := ?_) rfl (by kernel_rfl) (by kernel_rfl) (by kernel_rfl) (fun _ _ _ h => h) (Or.inl ⟨by rfl, ?_⟩) (by assumption) ?_
      rotate_left
      · (intro w hSw; (try dsimp only at hSw); go_simp; try with_reducible rfl)
      simp only [List.getElem_toArray, List.getElem_cons_zero, List.getElem_cons_succ, Act.put, List.setIfInBounds_toArray, List.set_cons_zero, List.set_cons_succ]
      refine wpAnyH_ready (rs := [0]) (by kernel_rfl) (by simp) ?_
      refine AllReadyH.cons rfl (fun K hK => ?_) AllReadyH.nil
      go_simp
      refine hK.out _ _ y1 (fun hHeld => ?_)
      clear hK K
      refine wpAnyH_ready (rs := [5]) (by kernel_rfl) (by simp) ?_
      refine AllReadyH.cons rfl (fun K hK => ?_) AllReadyH.nil
      go_simp
      go_at_call 86
      refine hc.mono ?_
      rintro e w' ⟨rfl, rfl⟩
      try go_simp
      refine hK.out _ _ y1 (fun hHeld => ?_)
      clear hK K
      simp only [List.getElem_toArray, List.getElem_cons_zero, List.getElem_cons_succ, Act.put, List.setIfInBounds_toArray, List.set_cons_zero, List.set_cons_succ]
      refine wpAnyH_ready (rs := [6]) (by kernel_rfl) (by simp) ?_
      refine AllReadyH.cons rfl (fun K hK => ?_) AllReadyH.nil
      go_simp
      refine hK.out _ _ yS (fun hHeld => ?_)
      clear hK K
      refine wpAnyH_done (by kernel_rfl) ?_ _
      dsimp only [OnlyNormal]
      gi_wp2_with fail
      refine ⟨((KeepsOthers.setCell _ _ _).trans (KeepsOthers.drew _)).from _, trivial, by rw [HS.out]; exact Blk.set_ (w := W.drew) hO 0 _, Blk.far (w := W.drew) hL (p := ⟨Bo, 0, none⟩) (by simp; omega) _, (hb.drew).setCell (p := ⟨Bo, 0, none⟩) (Nat.le_refl _) _⟩
  case done =>
    rintro D ys W hD rfl ⟨hO, hL, hb⟩ hK
    rw [soL_all] at hO
    have y0 : W.cell? ⟨Bo, 0, none⟩ = some (.int .u8 (stB u i j : Nat)) := hO.cell 0
    gi_wp2_with fail
    refine ⟨by simp, .inl ⟨_, _, rfl, run_takeDeferred hK, ?_⟩⟩
    rw [hBo]
    exact ⟨_, results_tmp rfl _ _ _, rfl, hb.trans (belowK_b (w := w) (by omega) W D _ _ (by omega) hK rfl rfl)⟩
  case stop =>
    rintro D cc pre W _ _ h _
    exact h.elim
end Go.Proofs.Ytemfdkoipeedeaa
