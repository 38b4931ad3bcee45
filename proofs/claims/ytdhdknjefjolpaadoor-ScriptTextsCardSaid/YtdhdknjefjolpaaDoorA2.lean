/-
  The texts Edg, Ln1, Ln2, Feed, Chk06, Cart1, Cart2, Cart3, Cart4, Cart5, Cart6 of the proofs about scripts, as one file (they are merged by a program).
-/
import Derived.Test.YtdhdknjefjolpaaDoorA1
import Derived.WalkMore
import Derived.Lib.LazyBuf
import Derived.Laws.CopyOwn
import Derived.Deep.RegionLaw
import Derived.Deep.DeepCutAuto
import Derived.ScopeJumps
import Derived.Deep.AppendLies
section
/-
  Edges in memory; lines in plain words.
-/
namespace Go.Proofs.YtdhdknjefjolpaaDoor
set_option linter.unusedSimpArgs false
set_option linter.unusedVariables false
set_option maxRecDepth 10000
open Go.RowKit

/-- A slice of edges, in blocks below B. -/
def EdgB (w : World) (a : Option Addr) (n : Nat) (St : Nat → Int) (Ln : Nat → Nat) (Up : Nat → Bool) (B : Nat) : Prop :=
  ∀ i, i < n → ∃ b off, a = some ⟨b, off, none⟩ ∧ b < B ∧ w.cell? ⟨b, off + i * 3, none⟩ = some (.int .i64 (St i)) ∧ w.cell? ⟨b, off + i * 3 + 1, none⟩ = some (.int .u8 (Ln i : Int)) ∧ w.cell? ⟨b, off + i * 3 + 2, none⟩ = some (.bool (Up i))
theorem EdgB.only {S : Nat → Prop} {w w' : World} {a : Option Addr} {n : Nat} {St : Nat → Int} {Ln : Nat → Nat} {Up : Nat → Bool} {B : Nat} (h : EdgB w a n St Ln Up B) (ho : Only S w w') (hs : ∀ j, j < B → ¬ S j) : EdgB w' a n St Ln Up B := fun i hi => by
  obtain ⟨b, off, ha, hlt, h0, h1, h2⟩ := h i hi
  have e := ho.block b (cell_lt h0) (hs b hlt)
  exact ⟨b, off, ha, hlt, (World.cell?_of_block e).trans h0, (World.cell?_of_block e).trans h1, (World.cell?_of_block e).trans h2⟩
theorem EdgB.mono {w : World} {a : Option Addr} {n : Nat} {St : Nat → Int} {Ln : Nat → Nat} {Up : Nat → Bool} {B B' : Nat} (h : EdgB w a n St Ln Up B) (hb : B ≤ B') : EdgB w a n St Ln Up B' := fun i hi => by
  obtain ⟨b, off, ha, hlt, r⟩ := h i hi
  exact ⟨b, off, ha, by omega, r⟩
theorem EdgB.below {w w' : World} {a : Option Addr} {n : Nat} {St : Nat → Int} {Ln : Nat → Nat} {Up : Nat → Bool} {B m : Nat} (h : EdgB w a n St Ln Up B) (hb : Below m w w') (hB : B ≤ m) : EdgB w' a n St Ln Up B := fun i hi => by
  obtain ⟨b, off, ha, hlt, h0, h1, h2⟩ := h i hi
  have e := hb.block b (by omega)
  exact ⟨b, off, ha, hlt, (World.cell?_of_block e).trans h0, (World.cell?_of_block e).trans h1, (World.cell?_of_block e).trans h2⟩
theorem EdgB.range {w : World} {n : Nat} {St : Nat → Int} {Ln : Nat → Nat} {Up : Nat → Bool} {a : Option Addr} {B : Nat} (h : EdgB w a n St Ln Up B) (h0 : 0 < n) : ∃ x, a = some x := by
  obtain ⟨b, off, e, _⟩ := h 0 h0
  exact ⟨_, e⟩

/-! ### in plain words -/
def limE : Int := 26388279066624
/-- What is wrong with edge i, the edges ahead of it being right. -/
def wrE (St : Nat → Int) (Ln : Nat → Nat) (i : Nat) : Nat := if 4 ≤ Ln i then 8 else if St i < (if i = 0 then 0 else St (i - 1)) ∨ limE < St i then 7 else 0
/-- The first wrong one of m edges from i on. -/
def chkE (St : Nat → Int) (Ln : Nat → Nat) : Nat → Nat → Nat × Nat
  | 0, _ => (0, 0)
  | m + 1, i => if wrE St Ln i ≠ 0 then (wrE St Ln i, i) else chkE St Ln m (i + 1)
def chkV (St : Nat → Int) (Ln : Nat → Nat) (n : Nat) : Nat × Nat := if 1000 < n then (2, 1000) else chkE St Ln n 0
theorem chkE_step {St : Nat → Int} {Ln : Nat → Nat} {n i : Nat} (h : i < n) (hw : wrE St Ln i = 0) : chkE St Ln (n - i) i = chkE St Ln (n - (i + 1)) (i + 1) := by
  obtain ⟨m, hm⟩ : ∃ m, n - i = m + 1 := ⟨n - i - 1, by omega⟩
  rw [hm, show n - (i + 1) = m from by omega]
  show (if wrE St Ln i ≠ 0 then _ else _) = _
  rw [if_neg (by omega)]
theorem chkE_bad {St : Nat → Int} {Ln : Nat → Nat} {n i : Nat} (h : i < n) (hw : wrE St Ln i ≠ 0) : chkE St Ln (n - i) i = (wrE St Ln i, i) := by
  obtain ⟨m, hm⟩ : ∃ m, n - i = m + 1 := ⟨n - i - 1, by omega⟩
  rw [hm]
  show (if wrE St Ln i ≠ 0 then _ else _) = _
  rw [if_pos hw]
theorem chkE_zero {St : Nat → Int} {Ln : Nat → Nat} : ∀ (m i : Nat), (chkE St Ln m i).1 = 0 → ∀ j, i ≤ j → j < i + m → wrE St Ln j = 0
  | 0, i, _, j, h1, h2 => by omega
  | m + 1, i, h, j, h1, h2 => by
    unfold chkE at h
    by_cases hw : wrE St Ln i = 0
    · rw [if_neg (by omega)] at h
      by_cases e : j = i
      · subst e; exact hw
      · exact chkE_zero m (i + 1) h j (by omega) (by omega)
    · rw [if_pos hw] at h
      exact absurd h hw
section
open Go.ChangeShapes Go.WideShapes Go.ChangeAt
variable {H : Type} {enc : TypeId × Value → H} {W : World} {base : Nat}
end
end Go.Proofs.YtdhdknjefjolpaaDoor
end
section
/-
  lines: wrong, Check, At; gannetref07: Check, At.
-/
namespace Go.Proofs.YtdhdknjefjolpaaDoor
set_option linter.unusedSimpArgs false
set_option linter.unusedVariables false
set_option maxRecDepth 10000
open Go.RowKit

def wrV (s : Int) (y : Nat) (ahead : Int) : Nat := if 4 ≤ y then 8 else if s < ahead ∨ limE < s then 7 else 0
theorem lnWrong_calls (s : Int) (y : Nat) (u : Bool) (ahead : Int) (w : World) :
    Calls Tryd.prog 54 #[.agg #[.int .i64 s, .int .u8 (y : Int), .bool u], .int .i64 ahead] w fun e w' => e = .returned (.int .i64 (wrV s y ahead : Nat)) ∧ Below w.heap.size w w' := by
  have hz : Blk (w.alloc (.cells #[.int .i64 s, .int .u8 (y : Int), .bool u] 31)) w.heap.size 31 #[.int .i64 s, .int .u8 (y : Int), .bool u] := Blk.new _ _ _
  by_cases h4 : 4 ≤ y
  · have i1 : (4 : Int) ≤ (y : Int) := by omega
    have e : wrV s y ahead = 8 := if_pos h4
    rw [e]
    clear e h4
    go_enter Tryd.func54, Tryd.ntmps54
    go_wp2_with fail
    go_ret
    exact ⟨rfl, by (repeat (first | exact Below.refl _ _ | assumption | refine Below.drew ?_ | refine Bl.alloc ?_ _ | refine below_drewN ?_ _ | refine Bl.chain ?_ (by assumption) (Nat.le_refl _)))⟩
  · have i1 : (decide ((4 : Int) ≤ (y : Int))) = false := by rw [decide_eq_false_iff_not]; omega
    by_cases h5 : s < ahead
    · have e : wrV s y ahead = 7 := by unfold wrV; rw [if_neg h4, if_pos (Or.inl h5)]
      rw [e]
      clear e h4
      go_enter Tryd.func54, Tryd.ntmps54
      go_wp2_with fail
      go_ret
      exact ⟨rfl, by (repeat (first | exact Below.refl _ _ | assumption | refine Below.drew ?_ | refine Bl.alloc ?_ _ | refine below_drewN ?_ _ | refine Bl.chain ?_ (by assumption) (Nat.le_refl _)))⟩
    · have i2 : (decide (s < ahead)) = false := by rw [decide_eq_false_iff_not]; exact h5
      by_cases h6 : limE < s
      · have e : wrV s y ahead = 7 := by unfold wrV; rw [if_neg h4, if_pos (Or.inr h6)]
        have h6' : (26388279066624 : Int) < s := h6
        rw [e]
        clear e h4 h5 h6
        go_enter Tryd.func54, Tryd.ntmps54
        go_wp2_with fail
        go_ret
        exact ⟨rfl, by (repeat (first | exact Below.refl _ _ | assumption | refine Below.drew ?_ | refine Bl.alloc ?_ _ | refine below_drewN ?_ _ | refine Bl.chain ?_ (by assumption) (Nat.le_refl _)))⟩
      · have e : wrV s y ahead = 0 := by unfold wrV; rw [if_neg h4, if_neg (fun x => x.elim h5 h6)]
        have i3 : (decide ((26388279066624 : Int) < s)) = false := by rw [decide_eq_false_iff_not]; exact h6
        rw [e]
        clear e h4 h5 h6
        go_enter Tryd.func54, Tryd.ntmps54
        go_wp2_with fail
        go_ret
        exact ⟨rfl, by (repeat (first | exact Below.refl _ _ | assumption | refine Below.drew ?_ | refine Bl.alloc ?_ _ | refine below_drewN ?_ _ | refine Bl.chain ?_ (by assumption) (Nat.le_refl _)))⟩
theorem wrV_wrE (St : Nat → Int) (Ln : Nat → Nat) (i : Nat) : wrV (St i) (Ln i) (if i = 0 then 0 else St (i - 1)) = wrE St Ln i := rfl
def fltA (p : Nat × Nat) : Array Value := #[.int .i64 (p.1 : Int), .int .i64 (p.2 : Int)]
set_option maxHeartbeats 4000000 in
theorem lnCheck_calls (o : Option Addr) (n c : Nat) (St : Nat → Int) (Ln : Nat → Nat) (Up : Nat → Bool) (w : World) (hE : EdgB w o n St Ln Up w.heap.size) :
    Calls Tryd.prog 27 #[.slice o n c] w fun e w' => e = .returned (.agg (fltA (chkV St Ln n))) ∧ Below w.heap.size w w' := by
  have hz : Blk (w.alloc (.cells #[.int .i64 0, .int .i64 0] 34)) w.heap.size 34 #[.int .i64 0, .int .i64 0] := Blk.new _ _ _
  by_cases h1 : 1000 < n
  · have i1 : (1000 : Int) < (n : Int) := by omega
    have e : chkV St Ln n = (2, 1000) := if_pos h1
    rw [e]
    clear e h1
    go_enter Tryd.func27, Tryd.ntmps27
    go_wp2_with fail
    refine bodyPost_ret (results_cell_row rfl _ _ w.heap.size 34 (fltA (2, 1000)) (0, 0) _ rfl (by first | exact heap_alloc_new w _ | exact hz.setRow _) Tryd.underlying34 rfl (by kernel_rfl)) rfl ⟨rfl, by first | exact (Below.refl _ _).alloc (Nat.le_refl _) _ | exact below_setRow ((Below.refl _ _).alloc (Nat.le_refl _) _) (Nat.le_refl _) _⟩
  · have i1 : (decide ((1000 : Int) < (n : Int))) = false := by rw [decide_eq_false_iff_not]; omega
    have e : chkV St Ln n = chkE St Ln n 0 := if_neg h1
    rw [e]
    have hn : n ≤ 1000 := by omega
    clear e h1
    go_enter Tryd.func27, Tryd.ntmps27
    go_wp2_with fail
    go_loopw [3, 13] (fun a i wr => ∃ j : Nat, j ≤ n ∧ i = .int .i64 (j : Int) ∧ a = .int .i64 (if j = 0 then 0 else St (j - 1)) ∧ chkE St Ln (n - j) j = chkE St Ln n 0 ∧ Blk wr w.heap.size 34 #[.int .i64 0, .int .i64 0] ∧ Below w.heap.size w wr) (fun _ i _ => n - (intOf i).toNat)
    case atStart => exact ⟨0, by omega, rfl, rfl, rfl, hz, (Below.refl _ _).alloc (Nat.le_refl _) _⟩
    case round =>
      obtain ⟨j, hj, rfl, rfl, hck, hzr, hbr⟩ := hrel
      by_cases hjn : j < n
      · have hjn' : (j : Int) < (n : Int) := by omega
        obtain ⟨b, off, rfl, hlt, x0, x1, x2⟩ := (hE.below hbr (Nat.le_refl _)) j hjn
        have hw := wrV_wrE St Ln j
        generalize (if j = 0 then 0 else St (j - 1)) = ah at *
        have hws : ∀ W, Calls Tryd.prog 54 #[.agg #[.int .i64 (St j), .int .u8 (Ln j : Int), .bool (Up j)], .int .i64 ah] W fun e w' => e = .returned (.int .i64 (wrE St Ln j : Nat)) ∧ Below W.heap.size W w' := fun W => by
          rw [← hw]; exact lnWrong_calls (St j) (Ln j) (Up j) ah W
        have hB := Blk.new wr 31 #[.int .i64 (St j), .int .u8 (Ln j : Int), .bool (Up j)]
        have hlt2 := cell_lt x0
        go_wp2_with fail
        refine Cl.m (hws _) ?_
        intro w1 hb1
        have hB1 := hB.below hb1 hB.lt
        have hz1 := (hzr.alloc (.cells #[.int .i64 (St j), .int .u8 (Ln j : Int), .bool (Up j)] 31)).below hb1 (by have := hzr.lt; simp; omega)
        have y0 : w1.cell? ⟨wr.heap.size, 0, none⟩ = some (.int .i64 (St j)) := hB1.cell 0
        have hb01 : Below w.heap.size w w1 := (hbr.alloc hbr.size _).trans (hb1.mono (by have := hbr.size; simp; omega))
        by_cases hz0 : wrE St Ln j = 0
        · rw [hz0]
          have hst := chkE_step (St := St) (Ln := Ln) hjn hz0
          go_wp2_with fail
          go_roundw
          case rel => exact ⟨j + 1, by omega, by go_num, by rw [if_neg (by omega)]; rfl, by rw [← hst]; exact hck, hz1, hb01⟩
          case measure => simp [intOf]; omega
        · have hne : (((wrE St Ln j : Nat) : Int) != 0) = true := by rw [bne_iff_ne]; omega
          have hbad := chkE_bad (St := St) (Ln := Ln) hjn hz0
          rw [hck] at hbad
          clear hz0 hck
          generalize wrE St Ln j = q at *
          have Hb := hide hbad
          clear hbad
          go_wp2_with (refine wpList_store_row rfl 34 _ _ rfl w.heap.size _ rfl rfl 34 _ hz1 (by kernel_rfl) rfl (by kernel_rfl) ?_)
          refine bodyPost_ret (results_cell_row rfl _ _ w.heap.size 34 (fltA (q, j)) (0, 0) _ rfl (hz1.setRow _) Tryd.underlying34 rfl (by kernel_rfl)) rfl ⟨by rw [Hb.out], below_setRow hb01 (Nat.le_refl _) _⟩
      · obtain rfl : j = n := by omega
        rw [Nat.sub_self] at hck
        have hck : chkE St Ln j 0 = (0, 0) := hck.symm
        have Hb := hide hck
        clear hck hE
        generalize (if j = 0 then 0 else St (j - 1)) = ah at *
        go_wp2_with (refine wpList_store_row rfl 34 _ _ rfl w.heap.size _ rfl rfl 34 _ hzr (by kernel_rfl) rfl (by kernel_rfl) ?_)
        refine bodyPost_ret (results_cell_row rfl _ _ w.heap.size 34 (fltA (0, 0)) (0, 0) _ rfl (hzr.setRow _) Tryd.underlying34 rfl (by kernel_rfl)) rfl ⟨by rw [Hb.out], below_setRow hbr (Nat.le_refl _) _⟩
end Go.Proofs.YtdhdknjefjolpaaDoor
end
section
/-
  gannetref07.Check.
-/
namespace Go.Proofs.YtdhdknjefjolpaaDoor
set_option linter.unusedSimpArgs false
set_option linter.unusedVariables false
set_option maxRecDepth 10000
open Go.RowKit

theorem wrE_8 {St : Nat → Int} {Ln : Nat → Nat} {i : Nat} (h : 4 ≤ Ln i) : wrE St Ln i = 8 := if_pos h
theorem wrE_7 {St : Nat → Int} {Ln : Nat → Nat} {i : Nat} (h : ¬ 4 ≤ Ln i) (hp : 0 < i → 0 ≤ St (i - 1)) (k : St i < 0 ∨ limE < St i ∨ (0 < i ∧ St i < St (i - 1))) : wrE St Ln i = 7 := by
  unfold wrE
  rw [if_neg h]
  refine if_pos ?_
  by_cases e : i = 0
  · rw [if_pos e]; omega
  · rw [if_neg e]; have := hp (by omega); omega
theorem wrE_0 {St : Nat → Int} {Ln : Nat → Nat} {i : Nat} (h : ¬ 4 ≤ Ln i) (k1 : ¬ St i < 0) (k2 : ¬ limE < St i) (k3 : ¬ (0 < i ∧ St i < St (i - 1))) : wrE St Ln i = 0 := by
  unfold wrE
  rw [if_neg h]
  refine if_neg ?_
  by_cases e : i = 0
  · rw [if_pos e]; omega
  · rw [if_neg e]; omega
set_option maxRecDepth 100000 in
set_option maxHeartbeats 2000000 in
theorem rlCheck_calls (o : Option Addr) (n c : Nat) (St : Nat → Int) (Ln : Nat → Nat) (Up : Nat → Bool) (w : World) (hE : EdgB w o n St Ln Up w.heap.size) :
    Calls Tryd.prog 29 #[.slice o n c] w fun e w' => e = .returned (.agg (fltA (chkV St Ln n))) ∧ Below w.heap.size w w' := by
  have hz : Blk (w.alloc (.cells #[.int .i64 0, .int .i64 0] 34)) w.heap.size 34 #[.int .i64 0, .int .i64 0] := Blk.new _ _ _
  have hb : Below w.heap.size w (w.alloc (.cells #[.int .i64 0, .int .i64 0] 34)) := (Below.refl _ _).alloc (Nat.le_refl _) _
  by_cases h1 : 1000 < n
  · have i1 : (1000 : Int) < (n : Int) := by omega
    have e : chkV St Ln n = (2, 1000) := if_pos h1
    rw [e]
    clear e h1
    go_enter Tryd.func29, Tryd.ntmps29
    go_wp2_with fail
    refine bodyPost_ret (results_cell_row rfl _ _ w.heap.size 34 (fltA (2, 1000)) (0, 0) _ rfl (by first | exact heap_alloc_new w _ | exact hz.setRow _) Tryd.underlying34 rfl (by kernel_rfl)) rfl ⟨rfl, by first | exact (Below.refl _ _).alloc (Nat.le_refl _) _ | exact below_setRow hb (Nat.le_refl _) _⟩
  · have i1 : (decide ((1000 : Int) < (n : Int))) = false := by rw [decide_eq_false_iff_not]; omega
    have e : chkV St Ln n = chkE St Ln n 0 := if_neg h1
    rw [e]
    have hn : n ≤ 1000 := by omega
    clear e h1
    go_enter Tryd.func29, Tryd.ntmps29
    go_wp2_with fail
    go_loopw [3] (fun i wr => ∃ j : Nat, j ≤ n ∧ i = .int .i64 (j : Int) ∧ chkE St Ln (n - j) j = chkE St Ln n 0 ∧ (0 < j → 0 ≤ St (j - 1)) ∧ Blk wr w.heap.size 34 #[.int .i64 0, .int .i64 0] ∧ Below w.heap.size w wr) (fun i _ => n - (intOf i).toNat)
    case atStart => exact ⟨0, by omega, rfl, rfl, fun h => absurd h (by omega), hz, hb⟩
    case round =>
      obtain ⟨j, hj, rfl, hck, hpr, hzr, hbr⟩ := hrel
      by_cases hjn : j < n
      · have hjn' : (j : Int) < (n : Int) := by omega
        have hEr := hE.below hbr (Nat.le_refl _)
        obtain ⟨b, off, rfl, hlt, x0, x1, x2⟩ := hEr j hjn
        by_cases h4 : 4 ≤ Ln j
        · have i3 : (3 : Int) < (Ln j : Int) := by omega
          have hbad := chkE_bad (St := St) (Ln := Ln) hjn (by rw [wrE_8 h4]; omega)
          rw [hck, wrE_8 h4] at hbad
          have Hb := hide hbad
          clear hbad hck
          go_wp2_with (refine wpList_store_row rfl 34 _ _ rfl w.heap.size _ rfl rfl 34 _ hzr (by kernel_rfl) rfl (by kernel_rfl) ?_)
          refine bodyPost_ret (results_cell_row rfl _ _ w.heap.size 34 (fltA (8, j)) (0, 0) _ rfl (hzr.setRow _) Tryd.underlying34 rfl (by kernel_rfl)) rfl ⟨by rw [Hb.out], below_setRow hbr (Nat.le_refl _) _⟩
        · have i3 : (decide ((3 : Int) < (Ln j : Int))) = false := by rw [decide_eq_false_iff_not]; omega
          have d0 : wr.drew.cell? ⟨b, off + j * 3, none⟩ = some (.int .i64 (St j)) := x0
          have hzd : ∀ q, Blk (wr.drewN q) w.heap.size 34 #[.int .i64 0, .int .i64 0] := fun q => hzr.below (below_drewN (Below.refl wr.heap.size wr) q) hzr.lt
          have hbd : ∀ q, Below w.heap.size w (wr.drewN q) := fun q => hbr.trans ((below_drewN (Below.refl wr.heap.size wr) q).mono hbr.size)
          by_cases k1 : St j < 0
          · have hbad := chkE_bad (St := St) (Ln := Ln) hjn (by rw [wrE_7 h4 hpr (Or.inl k1)]; omega)
            rw [hck, wrE_7 h4 hpr (Or.inl k1)] at hbad
            have Hb := hide hbad
            clear hbad hck h4
            go_wp2_with fail
            go_quiet (fail)
            have hzq := hzd nq
            have hbq := hbd nq
            generalize wr.drewN nq = wq at *
            go_wp2_with (refine wpList_store_row rfl 34 _ _ rfl w.heap.size _ rfl rfl 34 _ hzq (by kernel_rfl) rfl (by kernel_rfl) ?_)
            refine bodyPost_ret (results_cell_row rfl _ _ w.heap.size 34 (fltA (7, j)) (0, 0) _ rfl (hzq.setRow _) Tryd.underlying34 rfl (by kernel_rfl)) rfl ⟨by rw [Hb.out], below_setRow hbq (Nat.le_refl _) _⟩
          · have i4 : (decide (St j < 0)) = false := by rw [decide_eq_false_iff_not]; exact k1
            by_cases k2 : limE < St j
            · have k2' : (26388279066624 : Int) < St j := k2
              have hbad := chkE_bad (St := St) (Ln := Ln) hjn (by rw [wrE_7 h4 hpr (Or.inr (Or.inl k2))]; omega)
              rw [hck, wrE_7 h4 hpr (Or.inr (Or.inl k2))] at hbad
              have Hb := hide hbad
              clear hbad hck h4 k1 k2
              go_wp2_with fail
              go_quiet (fail)
              have hzq := hzd nq
              have hbq := hbd nq
              generalize wr.drewN nq = wq at *
              go_wp2_with (refine wpList_store_row rfl 34 _ _ rfl w.heap.size _ rfl rfl 34 _ hzq (by kernel_rfl) rfl (by kernel_rfl) ?_)
              refine bodyPost_ret (results_cell_row rfl _ _ w.heap.size 34 (fltA (7, j)) (0, 0) _ rfl (hzq.setRow _) Tryd.underlying34 rfl (by kernel_rfl)) rfl ⟨by rw [Hb.out], below_setRow hbq (Nat.le_refl _) _⟩
            · have i5 : (decide ((26388279066624 : Int) < St j)) = false := by rw [decide_eq_false_iff_not]; exact k2
              by_cases j0 : 0 < j
              · have j0' : (0 : Int) < (j : Int) := by omega
                obtain ⟨b2, off2, he2, hlt2, z0, _, _⟩ := hEr (j - 1) (by omega)
                cases he2
                obtain ⟨j1, hj1⟩ : ∃ j1, j - 1 = j1 := ⟨_, rfl⟩
                rw [hj1] at z0
                have ej : (j : Int) - 1 = (j1 : Int) := by omega
                have j1' : (j1 : Int) < (n : Int) := by omega
                have j2' : (decide ((n : Int) ≤ (j1 : Int))) = false := by rw [decide_eq_false_iff_not]; omega
                have d1 : wr.drew.cell? ⟨b, off + j1 * 3, none⟩ = some (.int .i64 (St j1)) := z0
                have hjm : j1 < n := by omega
                rw [hj1] at hpr
                by_cases k3 : St j < St j1
                · have hw : wrE St Ln j = 7 := wrE_7 h4 (by rw [hj1]; exact hpr) (Or.inr (Or.inr ⟨j0, by rw [hj1]; exact k3⟩))
                  have hbad := chkE_bad (St := St) (Ln := Ln) hjn (by rw [hw]; omega)
                  rw [hck, hw] at hbad
                  have Hb := hide hbad
                  clear hbad hck h4 k1 k2 hw hj1
                  go_wp2_with fail
                  go_quiet (fail)
                  have hzq := hzd nq
                  have hbq := hbd nq
                  generalize wr.drewN nq = wq at *
                  go_wp2_with (refine wpList_store_row rfl 34 _ _ rfl w.heap.size _ rfl rfl 34 _ hzq (by kernel_rfl) rfl (by kernel_rfl) ?_)
                  refine bodyPost_ret (results_cell_row rfl _ _ w.heap.size 34 (fltA (7, j)) (0, 0) _ rfl (hzq.setRow _) Tryd.underlying34 rfl (by kernel_rfl)) rfl ⟨by rw [Hb.out], below_setRow hbq (Nat.le_refl _) _⟩
                · have k3' : (decide (St j < St j1)) = false := by rw [decide_eq_false_iff_not]; exact k3
                  have hst := chkE_step (St := St) (Ln := Ln) hjn (wrE_0 h4 k1 k2 (by rw [hj1]; omega))
                  have Hs := hide hst
                  clear hst h4 hj1
                  go_wp2_with fail
                  go_quiet (fail)
                  go_wp2_with fail
                  go_roundw
                  case rel => exact ⟨j + 1, by omega, by go_num, by rw [← Hs.out]; exact hck, fun _ => by show 0 ≤ St (j + 1 - 1); rw [Nat.add_sub_cancel]; omega, hzd _, hbd _⟩
                  case measure => simp [intOf]; omega
              · have j0' : (decide ((0 : Int) < (j : Int))) = false := by rw [decide_eq_false_iff_not]; omega
                have j0'' : (decide (0 < j)) = false := by rw [decide_eq_false_iff_not]; omega
                have hst := chkE_step (St := St) (Ln := Ln) hjn (wrE_0 h4 k1 k2 (fun x => j0 x.1))
                have Hs := hide hst
                clear hst h4 j0
                go_wp2_with fail
                go_quiet (fail)
                go_wp2_with fail
                go_roundw
                case rel => exact ⟨j + 1, by omega, by go_num, by rw [← Hs.out]; exact hck, fun _ => by show 0 ≤ St (j + 1 - 1); rw [Nat.add_sub_cancel]; omega, hzd _, hbd _⟩
                case measure => simp [intOf]; omega
      · obtain rfl : j = n := by omega
        rw [Nat.sub_self] at hck
        have hck : chkE St Ln j 0 = (0, 0) := hck.symm
        have Hb := hide hck
        clear hck hE
        go_wp2_with (refine wpList_store_row rfl 34 _ _ rfl w.heap.size _ rfl rfl 34 _ hzr (by kernel_rfl) rfl (by kernel_rfl) ?_)
        refine bodyPost_ret (results_cell_row rfl _ _ w.heap.size 34 (fltA (0, 0)) (0, 0) _ rfl (hzr.setRow _) Tryd.underlying34 rfl (by kernel_rfl)) rfl ⟨by rw [Hb.out], below_setRow hbr (Nat.le_refl _) _⟩
end Go.Proofs.YtdhdknjefjolpaaDoor
end
section
/-
  Package feed, but Check; gannetref06.
-/
namespace Go.Proofs.YtdhdknjefjolpaaDoor
set_option linter.unusedSimpArgs false
set_option linter.unusedVariables false
set_option maxRecDepth 10000
open Go.RowKit

theorem infoU8f : (Tryd.prog.info? 5).map (fun i => (i.zero, i.size, i.bytes)) = some (some (.int .u8 0), 1, 1) := by kernel_rfl
/-- The numbers of a slice, as a list. -/
def lst8 (L : Nat → Int) (n : Nat) : List Int := (List.range n).map L
theorem lst8_get (L : Nat → Int) (n i : Nat) (h : i < n) : (lst8 L n).getD i 0 = L i := by unfold lst8; simp [List.getD, h]

theorem slClone_calls (o : Option Addr) (n c : Nat) (L : Nat → Int) (w : World) (hn : n ≤ 140737488355328) (hL : NumsAt w .u8 o n L) :
    Calls Tryd.prog 20 #[.slice o n c] w fun e w' => ∃ o' c', e = .returned (.slice o' n c') ∧ NumsAt w' .u8 o' n L ∧ Below w.heap.size w w' := by
  obtain ⟨i0, hi, hz0, hz1, hz2⟩ := info_parts infoU8f
  have hnil := fun W a l c => run_eql_slice_nil W 22 5 a l c Tryd.underlying22
  have hnil2 := fun W a l c => run_equalIn_slice_nil W 9999 22 5 a l c Tryd.underlying22
  cases o with
  | none =>
    have hn0 : n = 0 := by
      rcases Nat.eq_zero_or_pos n with h | h
      · exact h
      · obtain ⟨_, _, h, _⟩ := hL 0 h; cases h
    subst hn0
    go_enter Tryd.func20, Tryd.ntmps20
    go_wp2_with fail
    go_ret
    exact ⟨_, _, rfl, fun i hi => by omega, by (repeat (first | exact Below.refl _ _ | assumption | refine Below.drew ?_ | refine Bl.alloc ?_ _ | refine below_drewN ?_ _ | refine Bl.chain ?_ (by assumption) (Nat.le_refl _)))⟩
  | some a =>
    have hown := World.ownsRow_lit w (base := w.heap.size) (e := 5) (size := 1) #[] 0 (Nat.le_refl _) (by decide) rfl
    go_enter Tryd.func20, Tryd.ntmps20
    go_wp2_with (at_builtin; refine wpList_append_own _ rfl _ _ 22 rfl w.heap.size 5 i0 (.int .u8 0) 1 1 Tryd.underlying22 hi hz0 hz1 hz2 rfl (by decide) _ _ _ rfl hown _ n c ((lst8 L n).map (Value.int .u8)) rfl ?c0 ?c1 ?c2 ?c3 ?c4 ?c5 ?_)
    case c0 => simp [lst8]
    case c1 =>
      intro j u hu
      have hj : j < n := by
        have := (List.getElem?_eq_some_iff.1 hu).1
        simpa [lst8] using this
      obtain ⟨b, off, ha, hlt, hc⟩ := hL j hj
      injection ha with ha
      subst ha
      have e : u = L j := by simpa [lst8, hj, eq_comm] using hu
      rw [add_plain, e]
      exact (World.cell?_alloc_lt w _ ⟨b, off + j, none⟩ hlt).trans hc
    case c2 =>
      intro u hu
      rfl
    case c3 => unfold maxLen; omega
    intro v1 w1 hown1 hgrow1 _
    obtain ⟨o', c', rfl, hn1⟩ := nums_of_own hown1
    go_wp2_with fail
    go_ret
    refine ⟨_, _, rfl, fun i hi => ?_, ?_⟩
    · have := hn1 i hi
      dsimp only at this ⊢
      rwa [lst8_get L n i hi] at this
    · exact (Bl.alloc (Below.refl _ _) _).grown hgrow1 (by simp) (fun k hk => (hown.lt k hk).1)

/-! ### the document's -/
end Go.Proofs.YtdhdknjefjolpaaDoor
end
section
/-
  feed.Check and what it calls.
-/
namespace Go.Proofs.YtdhdknjefjolpaaDoor
set_option linter.unusedSimpArgs false
set_option linter.unusedVariables false
set_option maxRecDepth 10000
open Go.RowKit

def ixV (l0 l1 l2 : Nat) : Int := if 10000 < l0 then 0 else if 10000 < l1 then 1 else if 10000 < l2 then 2 else -1
theorem fdLong1_calls (o : Option Addr) (n c : Nat) (w : World) :
    Calls Tryd.prog 75 #[.slice o n c] w fun e w' => e = .returned (.bool (decide ((10000 : Int) < (n : Int)))) ∧ w = w' := by
  go_enter Tryd.func75, Tryd.ntmps75
  go_wp2_with fail
  go_ret
  exact ⟨rfl, rfl⟩
theorem fdIndex_calls (g : Nat) (o0 o1 o2 : Option Addr) (l0 l1 l2 c0 c1 c2 : Nat) (w : World)
    (h0 : w.cell? ⟨g, 0, none⟩ = some (.slice o0 l0 c0)) (h1 : w.cell? ⟨g, 1, none⟩ = some (.slice o1 l1 c1)) (h2 : w.cell? ⟨g, 2, none⟩ = some (.slice o2 l2 c2)) :
    Calls Tryd.prog 90 #[.slice (some ⟨g, 0, none⟩) 3 3, .func (.func 75) #[] #[]] w fun e w' => e = .returned (.int .i64 (ixV l0 l1 l2)) ∧ w = w' := by
  have hr : (10000 < l0 → ixV l0 l1 l2 = 0) ∧ (¬ 10000 < l0 → 10000 < l1 → ixV l0 l1 l2 = 1) ∧ (¬ 10000 < l0 → ¬ 10000 < l1 → 10000 < l2 → ixV l0 l1 l2 = 2) ∧ (¬ 10000 < l0 → ¬ 10000 < l1 → ¬ 10000 < l2 → ixV l0 l1 l2 = -1) := by
    unfold ixV
    refine ⟨fun h => if_pos h, fun h h' => by rw [if_neg h, if_pos h'], fun h h' h'' => by rw [if_neg h, if_neg h', if_pos h''], fun h h' h'' => by rw [if_neg h, if_neg h', if_neg h'']⟩
  have Hr := hide hr
  clear hr
  go_enter Tryd.func90, Tryd.ntmps90
  go_wp2_with fail
  go_loop [5, 8] (fun _ i => ∃ k : Nat, k ≤ 3 ∧ i = .int .i64 (k : Int) ∧ (0 < k → ¬ 10000 < l0) ∧ (1 < k → ¬ 10000 < l1) ∧ (2 < k → ¬ 10000 < l2)) (fun _ i => 3 - (intOf i).toNat)
  case atStart => exact ⟨0, by omega, rfl, by omega, by omega, by omega⟩
  case round =>
    obtain ⟨k, hk, rfl, q0, q1, q2⟩ := hrel
    have Q0 := hide q0
    have Q1 := hide q1
    have Q2 := hide q2
    clear q0 q1 q2
    have hk3 : k = 0 ∨ k = 1 ∨ k = 2 ∨ k = 3 := by omega
    rcases hk3 with rfl | rfl | rfl | rfl
    · by_cases hb : 10000 < l0
      · have hb' : (decide ((10000 : Int) < (l0 : Int))) = true := by rw [decide_eq_true_eq]; omega
        have E := hide (Hr.out.1 hb)
        clear hb
        (go_wp2_with fail; refine Cl.p (fdLong1_calls o0 l0 c0 _) ?_)
        go_wp2_with fail
        go_ret
        exact ⟨ret_int E.out.symm, rfl⟩
      · have hb' : (decide ((10000 : Int) < (l0 : Int))) = false := by rw [decide_eq_false_iff_not]; omega
        (go_wp2_with fail; refine Cl.p (fdLong1_calls o0 l0 c0 _) ?_)
        go_wp2_with fail
        go_round
        case rel => exact ⟨1, by omega, rfl, fun _ => hb, by omega, by omega⟩
        case measure => simp [intOf]
    · have n0 := Q0.out (by omega)
      by_cases hb : 10000 < l1
      · have hb' : (decide ((10000 : Int) < (l1 : Int))) = true := by rw [decide_eq_true_eq]; omega
        have E := hide (Hr.out.2.1 n0 hb)
        clear hb n0
        (go_wp2_with fail; refine Cl.p (fdLong1_calls o1 l1 c1 _) ?_)
        go_wp2_with fail
        go_ret
        exact ⟨ret_int E.out.symm, rfl⟩
      · have hb' : (decide ((10000 : Int) < (l1 : Int))) = false := by rw [decide_eq_false_iff_not]; omega
        (go_wp2_with fail; refine Cl.p (fdLong1_calls o1 l1 c1 _) ?_)
        go_wp2_with fail
        go_round
        case rel => exact ⟨2, by omega, rfl, fun _ => n0, fun _ => hb, by omega⟩
        case measure => simp [intOf]
    · have n0 := Q0.out (by omega)
      have n1 := Q1.out (by omega)
      by_cases hb : 10000 < l2
      · have hb' : (decide ((10000 : Int) < (l2 : Int))) = true := by rw [decide_eq_true_eq]; omega
        have E := hide (Hr.out.2.2.1 n0 n1 hb)
        clear hb n0 n1
        (go_wp2_with fail; refine Cl.p (fdLong1_calls o2 l2 c2 _) ?_)
        go_wp2_with fail
        go_ret
        exact ⟨ret_int E.out.symm, rfl⟩
      · have hb' : (decide ((10000 : Int) < (l2 : Int))) = false := by rw [decide_eq_false_iff_not]; omega
        (go_wp2_with fail; refine Cl.p (fdLong1_calls o2 l2 c2 _) ?_)
        go_wp2_with fail
        go_round
        case rel => exact ⟨3, by omega, rfl, fun _ => n0, fun _ => n1, fun _ => hb⟩
        case measure => simp [intOf]
    · have E := hide (Hr.out.2.2.2 (Q0.out (by omega)) (Q1.out (by omega)) (Q2.out (by omega)))
      go_wp2_with fail
      go_ret
      exact ⟨ret_int E.out.symm, rfl⟩
theorem ixV_nn (l0 l1 l2 : Nat) : (decide ((0 : Int) ≤ ixV l0 l1 l2)) = decide (10000 < l0 ∨ 10000 < l1 ∨ 10000 < l2) := by
  rw [decide_eq_decide]
  unfold ixV
  repeat (first | omega | split)
theorem fdContains_calls (g : Nat) (o0 o1 o2 : Option Addr) (l0 l1 l2 c0 c1 c2 : Nat) (w : World)
    (h0 : w.cell? ⟨g, 0, none⟩ = some (.slice o0 l0 c0)) (h1 : w.cell? ⟨g, 1, none⟩ = some (.slice o1 l1 c1)) (h2 : w.cell? ⟨g, 2, none⟩ = some (.slice o2 l2 c2)) :
    Calls Tryd.prog 74 #[.slice (some ⟨g, 0, none⟩) 3 3, .func (.func 75) #[] #[]] w fun e w' => e = .returned (.bool (decide (10000 < l0 ∨ 10000 < l1 ∨ 10000 < l2))) ∧ w = w' := by
  have hx := ixV_nn l0 l1 l2
  have hc := fun W a b c => fdIndex_calls g o0 o1 o2 l0 l1 l2 c0 c1 c2 W a b c
  generalize ixV l0 l1 l2 = q at *
  generalize decide (10000 < l0 ∨ 10000 < l1 ∨ 10000 < l2) = bb at *
  go_enter Tryd.func74, Tryd.ntmps74
  (go_wp2_with fail; refine Cl.p (hc _ h0 h1 h2) ?_)
  go_wp2_with fail
  go_ret
  first | exact ⟨rfl, rfl⟩ | exact ⟨ret_bool hx, rfl⟩
theorem fdLong_calls (g : Nat) (o0 o1 o2 : Option Addr) (l0 l1 l2 c0 c1 c2 : Nat) (w : World)
    (h0 : w.cell? ⟨g, 0, none⟩ = some (.slice o0 l0 c0)) (h1 : w.cell? ⟨g, 1, none⟩ = some (.slice o1 l1 c1)) (h2 : w.cell? ⟨g, 2, none⟩ = some (.slice o2 l2 c2)) :
    Calls Tryd.prog 53 #[.slice (some ⟨g, 0, none⟩) 3 3] w fun e w' => e = .returned (.bool (decide (10000 < l0 ∨ 10000 < l1 ∨ 10000 < l2))) ∧ w = w' := by
  have hc := fun W a b c => fdContains_calls g o0 o1 o2 l0 l1 l2 c0 c1 c2 W a b c
  generalize decide (10000 < l0 ∨ 10000 < l1 ∨ 10000 < l2) = bb at *
  go_enter Tryd.func53, Tryd.ntmps53
  (go_wp2_with fail; refine Cl.p (hc _ h0 h1 h2) ?_)
  go_wp2_with fail
  go_ret
  exact ⟨rfl, rfl⟩
theorem fdCheck_calls (o0 o1 o2 : Option Addr) (l0 l1 l2 c0 c1 c2 : Nat) (w : World) :
    Calls Tryd.prog 26 #[.agg #[.slice o0 l0 c0, .slice o1 l1 c1, .slice o2 l2 c2]] w fun e w' => e = .returned (.int .i64 (if 10000 < l0 ∨ 10000 < l1 ∨ 10000 < l2 then 2 else 0)) ∧ Below w.heap.size w w' := by
  have hl := fun g W a b c => fdLong_calls g o0 o1 o2 l0 l1 l2 c0 c1 c2 W a b c
  by_cases hb : 10000 < l0 ∨ 10000 < l1 ∨ 10000 < l2
  · rw [if_pos hb]
    rw [decide_eq_true hb] at hl
    clear hb
    go_enter Tryd.func26, Tryd.ntmps26
    go_wp2_with fail
    refine Cl.p (hl (w.heap.size + 1) _ (by simp [go_sem]) (by simp [go_sem]) (by simp [go_sem])) ?_
    go_wp2_with fail
    go_ret
    exact ⟨rfl, by (repeat (first | exact Below.refl _ _ | assumption | refine Below.drew ?_ | refine Bl.alloc ?_ _ | refine below_drewN ?_ _ | refine Bl.chain ?_ (by assumption) (Nat.le_refl _)))⟩
  · rw [if_neg hb]
    rw [decide_eq_false hb] at hl
    clear hb
    go_enter Tryd.func26, Tryd.ntmps26
    go_wp2_with fail
    refine Cl.p (hl (w.heap.size + 1) _ (by simp [go_sem]) (by simp [go_sem]) (by simp [go_sem])) ?_
    go_wp2_with fail
    go_ret
    exact ⟨rfl, by (repeat (first | exact Below.refl _ _ | assumption | refine Below.drew ?_ | refine Bl.alloc ?_ _ | refine below_drewN ?_ _ | refine Bl.chain ?_ (by assumption) (Nat.le_refl _)))⟩
end Go.Proofs.YtdhdknjefjolpaaDoor
end
section
/-
  Bytes in a row, pieces in memory; cart: lay, Check; gannetlaw04: small; gannetref04: Check.
-/
namespace Go.Proofs.YtdhdknjefjolpaaDoor
set_option linter.unusedSimpArgs false
set_option linter.unusedVariables false
set_option maxRecDepth 10000
open Go.RowKit

def rowN (N : Nat) (F : Nat → Int) : Array Value := arr N (fun i => .int .u8 (F i))
theorem rowN_congr {N : Nat} {F G : Nat → Int} (h : ∀ i, i < N → F i = G i) : rowN N F = rowN N G := arr_congr fun i hi => by rw [h i hi]
/-- Bytes in a block of their own. -/
def RW (w : World) (g N : Nat) (F : Nat → Int) : Prop := Blk w g 5 (rowN N F)
theorem RW.cell {w : World} {g N : Nat} {F : Nat → Int} (h : RW w g N F) (i : Nat) (hi : i < N) : w.cell? ⟨g, i, none⟩ = some (.int .u8 (F i)) := (Blk.cell h i).trans (arr_get N _ i hi)
theorem RW.nums {w : World} {g N : Nat} {F : Nat → Int} (h : RW w g N F) : NumsAt w .u8 (some ⟨g, 0, none⟩) N F := fun i hi => ⟨g, 0, rfl, Blk.lt h, by rw [Nat.zero_add]; exact h.cell i hi⟩
theorem RW.set {w : World} {g N : Nat} {F : Nat → Int} (h : RW w g N F) (i : Nat) (hi : i < N) (v : Int) : RW (w.setCell ⟨g, i, none⟩ (.int .u8 v)) g N (fun j => if j = i then v else F j) := by
  have h1 := Blk.set_ h i (.int .u8 v)
  have e : (rowN N F).setIfInBounds i (.int .u8 v) = rowN N (fun j => if j = i then v else F j) := by
    unfold rowN
    rw [arr_set N _ i _ hi]
    refine arr_congr fun j _ => ?_
    unfold updv
    dsimp only
    by_cases hj : j = i
    · rw [if_pos hj, if_pos hj]
    · rw [if_neg hj, if_neg hj]
  rw [e] at h1
  exact h1
theorem RW.congr {w : World} {g N : Nat} {F G : Nat → Int} (h : RW w g N F) (e : ∀ i, i < N → F i = G i) : RW w g N G := by
  unfold RW at h ⊢
  rw [← rowN_congr e]
  exact h
/-- Bytes laid over others. -/
def layF (F : Nat → Int) (p n : Nat) (L : Nat → Int) : Nat → Int := fun i => if p ≤ i ∧ i < p + n then L (i - p) else F i
def lst (n : Nat) (L : Nat → Int) : List Value := (List.range n).map fun i => .int .u8 (L i)
theorem lst_length (n : Nat) (L : Nat → Int) : (lst n L).length = n := by simp [lst]
theorem lst_get (n : Nat) (L : Nat → Int) (i : Nat) : (lst n L)[i]? = if i < n then some (.int .u8 (L i)) else none := by
  unfold lst
  by_cases h : i < n
  · simp [h]
  · simp [h]
theorem splice_row {N p n : Nat} {F L : Nat → Int} (hp : p + n ≤ N) : (splice (lst N F) p (lst n L)).toArray = rowN N (layF F p n L) := by
  unfold rowN arr
  congr 1
  apply List.ext_getElem?
  intro i
  have hr : ((List.range N).map fun i => Value.int .u8 (layF F p n L i))[i]? = if i < N then some (.int .u8 (layF F p n L i)) else none := by
    by_cases h : i < N
    · simp [h]
    · simp [h]
  rw [hr]
  unfold splice
  rw [List.getElem?_append, List.getElem?_append, List.getElem?_take, List.getElem?_drop, List.length_take, lst_length, lst_length, lst_get, lst_get, lst_get]
  unfold layF
  have hm : min p N = p := by omega
  rw [hm]
  by_cases h1 : i < p
  · rw [if_pos h1, if_pos h1]
    by_cases h2 : i < N
    · rw [if_pos h2, if_pos h2, if_neg (by omega)]
    · omega
  · rw [if_neg h1]
    by_cases h3 : i - p < n
    · rw [if_pos h3, if_pos h3, if_pos (by omega), if_pos (by omega)]
    · rw [if_neg h3]
      by_cases h4 : i < N
      · rw [if_pos (by omega), if_pos h4, if_neg (by omega), show p + n + (i - p - n) = i from by omega]
      · rw [if_neg (by omega), if_neg h4]
theorem lst_one (n : Nat) (L : Nat → Int) : ∀ v ∈ lst n L, v.oneCell' = true := by
  intro v hv
  simp only [lst, List.mem_map] at hv
  obtain ⟨j, _, rfl⟩ := hv
  rfl
theorem lst_src {w : World} {o : Option Addr} {n : Nat} {L : Nat → Int} (hL : NumsAt w .u8 o n L) (h0 : 0 < (lst n L).length) : ∃ ad, o = some ad ∧ ∀ j v, (lst n L)[j]? = some v → w.cell? (ad.add j) = some v := by
  rw [lst_length] at h0
  obtain ⟨b, off, ha, _, _⟩ := hL 0 h0
  refine ⟨_, ha, fun j v hv => ?_⟩
  rw [lst_get] at hv
  by_cases hj : j < n
  · rw [if_pos hj] at hv
    cases hv
    obtain ⟨b', off', ha', _, hc⟩ := hL j hj
    rw [ha] at ha'
    cases ha'
    rw [add_plain]
    exact hc
  · rw [if_neg hj] at hv; cases hv
/-- Pieces, all in blocks below B. -/
def PieB (w : World) (a : Option Addr) (n : Nat) (At : Nat → Int) (O : Nat → Option Addr) (Ln Cp : Nat → Nat) (By : Nat → Nat → Int) (B : Nat) : Prop :=
  ∀ i, i < n → ∃ b off, a = some ⟨b, off, none⟩ ∧ b < B ∧ w.cell? ⟨b, off + i * 2, none⟩ = some (.int .i64 (At i)) ∧ w.cell? ⟨b, off + i * 2 + 1, none⟩ = some (.slice (O i) (Ln i) (Cp i)) ∧ NumsB w .u8 (O i) (Ln i) (By i) B
section
variable {w w' : World} {a : Option Addr} {n : Nat} {At : Nat → Int} {O : Nat → Option Addr} {Ln Cp : Nat → Nat} {By : Nat → Nat → Int} {B m : Nat}
theorem PieB.only {S : Nat → Prop} (h : PieB w a n At O Ln Cp By B) (ho : Only S w w') (hs : ∀ j, j < B → ¬ S j) : PieB w' a n At O Ln Cp By B := fun i hi => by
  obtain ⟨b, off, ha, hlt, h0, h1, h2⟩ := h i hi
  have e := ho.block b (cell_lt h0) (hs b hlt)
  exact ⟨b, off, ha, hlt, (World.cell?_of_block e).trans h0, (World.cell?_of_block e).trans h1, h2.only ho hs⟩
theorem NumsB.mono {k : IntKind} {L : Nat → Int} {B' : Nat} (h : NumsB w k a n L B) (hb : B ≤ B') : NumsB w k a n L B' := fun i hi => by
  obtain ⟨b, off, ha, hlt, r⟩ := h i hi
  exact ⟨b, off, ha, by omega, r⟩
theorem NumsB.below {k : IntKind} {L : Nat → Int} (h : NumsB w k a n L B) (hb : Below m w w') (hB : B ≤ m) : NumsB w' k a n L B := fun i hi => by
  obtain ⟨b, off, ha, hlt, h0⟩ := h i hi
  exact ⟨b, off, ha, hlt, (World.cell?_of_block (hb.block b (by omega))).trans h0⟩
theorem PieB.mono {B' : Nat} (h : PieB w a n At O Ln Cp By B) (hb : B ≤ B') : PieB w a n At O Ln Cp By B' := fun i hi => by
  obtain ⟨b, off, ha, hlt, h0, h1, h2⟩ := h i hi
  exact ⟨b, off, ha, by omega, h0, h1, h2.mono hb⟩
theorem PieB.below (h : PieB w a n At O Ln Cp By B) (hb : Below m w w') (hB : B ≤ m) : PieB w' a n At O Ln Cp By B := fun i hi => by
  obtain ⟨b, off, ha, hlt, h0, h1, h2⟩ := h i hi
  have e := hb.block b (by omega)
  exact ⟨b, off, ha, hlt, (World.cell?_of_block e).trans h0, (World.cell?_of_block e).trans h1, h2.below hb hB⟩
end
/-- Does a piece lie within? -/
def Fits (N : Nat) (p : Int) (n : Nat) : Prop := 0 ≤ p ∧ p + n ≤ N
theorem lay_ok (g N p n c : Nat) (F L : Nat → Int) (o : Option Addr) (w : World) (hN : N ≤ 1048576) (hp : p + n ≤ N) (hR : RW w g N F) (hL : NumsAt w .u8 o n L) :
    Calls Tryd.prog 81 #[.slice (some ⟨g, 0, none⟩) N N, .agg #[.int .i64 (p : Int), .slice o n c]] w fun e w' => e = .returned (.bool true) ∧ RW w' g N (layF F p n L) ∧ Below g w w' := by
  have hgl := Blk.lt hR
  have hX : Blk (w.alloc (.cells #[.int .i64 (p : Int), .slice o n c] 88)) w.heap.size 88 #[.int .i64 (p : Int), .slice o n c] := Blk.new _ _ _
  have hb1 : Below g w (w.alloc (.cells #[.int .i64 (p : Int), .slice o n c] 88)) := (Below.refl _ _).alloc (Nat.le_of_lt hgl) _
  have hR1 : RW (w.alloc (.cells #[.int .i64 (p : Int), .slice o n c] 88)) g N F := Blk.alloc hR _
  have hL1 : NumsAt (w.alloc (.cells #[.int .i64 (p : Int), .slice o n c] 88)) .u8 o n L := hL.below ((Below.refl w.heap.size w).alloc (Nat.le_refl _) _) (Nat.le_refl _)
  have i1 : (decide ((p : Int) < 0)) = false := by rw [decide_eq_false_iff_not]; omega
  have i2 : (decide ((N : Int) < (p : Int))) = false := by rw [decide_eq_false_iff_not]; omega
  have i3 : (decide ((N : Int) - (p : Int) < (n : Int))) = false := by rw [decide_eq_false_iff_not]; omega
  have i4 : (p : Int) ≤ (N : Int) := by omega
  obtain ⟨i0, hi, hz0, hz1, hz2⟩ := info_parts infoU8
  have hsz1 : (Tryd.prog.info? 5).map (·.size) = some 1 := by rw [hi]; simp [hz1]
  go_enter Tryd.func81, Tryd.ntmps81
  go_wp2_with fail
  generalize w.alloc (.cells #[.int .i64 (p : Int), .slice o n c] 88) = w1 at *
  have x0 : w1.drew.cell? ⟨w.heap.size, 0, none⟩ = some (.int .i64 (p : Int)) := hX.cell 0
  have x1 : w1.drew.cell? ⟨w.heap.size, 1, none⟩ = some (.slice o n c) := hX.cell 1
  have hg : w1.drew.heap[g]? = some (.cells (lst N F).toArray 5 (0, 0)) := hR1
  have hsrc : 0 < (lst n L).length → ∃ ad, o = some ad ∧ ∀ j v, (lst n L)[j]? = some v → w1.drew.cell? (ad.add j) = some v := fun h0 => lst_src hL1 h0
  have hn' : (lst n L).length = Nat.min n (N - p) := by rw [lst_length]; exact (Nat.min_eq_left (by omega)).symm
  have hfit : p + (lst n L).length ≤ (lst N F).length := by rw [lst_length, lst_length]; exact hp
  have hif : 0 < (lst n L).length → (if N = p then some (⟨g, 0, none⟩ : Addr) else some ⟨g, p, none⟩) = some ⟨g, p, none⟩ := fun h0 => if_neg (by rw [lst_length] at h0; omega)
  clear hL hL1 hR hR1 i4
  go_region_law (first
    | (refine step_copy_splice (by rfl) (.tmp 29) (.tmp 31) 22 22 (by rfl) 5 Tryd.underlying22 hsz1 _ o (N - p) _ n c (by rfl) (by rfl) g p (lst N F) 5 hg (lst n L) hn' (fun h0 => ⟨hif h0, hsrc h0⟩) hfit (lst_one n L) g w hb1.drew (Nat.le_refl _) ?_; intro w2 hG hB))
  all_goals
    have hG2 := hG.out
    rw [splice_row hp] at hG2
    go_wp2_with fail
    all_goals
      go_ret
      exact ⟨rfl, by first | exact hG2 | (subst_vars; exact hG2), hB⟩
theorem lay_bad (N n c : Nat) (p : Int) (r o : Option Addr) (cr : Nat) (w : World) (hN : N ≤ 1048576) (h : ¬ Fits N p n) :
    Calls Tryd.prog 81 #[.slice r N cr, .agg #[.int .i64 p, .slice o n c]] w fun e w' => e = .returned (.bool false) ∧ Below w.heap.size w w' := by
  have hX : Blk (w.alloc (.cells #[.int .i64 (p : Int), .slice o n c] 88)) w.heap.size 88 #[.int .i64 (p : Int), .slice o n c] := Blk.new _ _ _
  have hb1 : Below w.heap.size w (w.alloc (.cells #[.int .i64 (p : Int), .slice o n c] 88)) := (Below.refl _ _).alloc (Nat.le_refl _) _
  unfold Fits at h
  by_cases h1 : p < 0
  · clear h
    go_enter Tryd.func81, Tryd.ntmps81
    go_wp2_with fail
    go_ret
    exact ⟨rfl, hb1⟩
  · have i1 : (decide (p < 0)) = false := decide_eq_false h1
    by_cases h2 : (N : Int) < p
    · clear h h1
      go_enter Tryd.func81, Tryd.ntmps81
      go_wp2_with fail
      go_ret
      exact ⟨rfl, hb1⟩
    · have i2 : (decide ((N : Int) < p)) = false := decide_eq_false h2
      have i3 : (N : Int) - p < (n : Int) := by omega
      obtain ⟨q, rfl⟩ : ∃ q : Nat, p = (q : Int) := ⟨p.toNat, by omega⟩
      have i4 : (q : Int) ≤ (N : Int) := by omega
      clear h h1 h2
      go_enter Tryd.func81, Tryd.ntmps81
      go_wp2_with fail
      go_ret
      exact ⟨rfl, hb1⟩
/-- How many bytes a page has. -/
def ChkOk (n : Nat) : Prop := 1 ≤ n / 8192 ∧ n / 8192 ≤ 128 ∧ n % 8192 = 0
theorem ctCheck_ok (n c : Nat) (o : Option Addr) (w : World) (h : ChkOk n) :
    Calls Tryd.prog 25 #[.slice o n c] w fun e w' => e = .returned (.int .i64 0) ∧ w = w' := by
  obtain ⟨h1, h2, h3⟩ := h
  obtain ⟨q, hq⟩ : ∃ q, n / 8192 = q := ⟨_, rfl⟩
  have j1 : (n : Int).tdiv 8192 = (q : Int) := by rw [Int.tdiv_eq_ediv_of_nonneg (by omega)]; omega
  have j2 : (n : Int).tmod 8192 = 0 := by rw [Int.tmod_eq_emod_of_nonneg (by omega)]; omega
  have j3 : (n : Int) / 8192 = (q : Int) := by omega
  have j4 : (n : Int) % 8192 = 0 := by omega
  have i1 : (decide ((q : Int) < 1)) = false := by rw [decide_eq_false_iff_not]; omega
  have i2 : (decide ((128 : Int) < (q : Int))) = false := by rw [decide_eq_false_iff_not]; omega
  go_enter Tryd.func25, Tryd.ntmps25
  go_wp2_with fail
  go_ret
  exact ⟨rfl, rfl⟩
theorem ctCheck_bad (n c : Nat) (o : Option Addr) (w : World) (hn : n ≤ maxLen) (h : ¬ ChkOk n) :
    Calls Tryd.prog 25 #[.slice o n c] w fun e w' => e = .returned (.int .i64 6) ∧ w = w' := by
  unfold ChkOk at h
  unfold maxLen at hn
  obtain ⟨q, hq⟩ : ∃ q, n / 8192 = q := ⟨_, rfl⟩
  have j1 : (n : Int).tdiv 8192 = (q : Int) := by rw [Int.tdiv_eq_ediv_of_nonneg (by omega)]; omega
  have j3 : (n : Int) / 8192 = (q : Int) := by omega
  by_cases h1 : q < 1
  · have i1 : (q : Int) < 1 := by omega
    clear h h1 hq
    go_enter Tryd.func25, Tryd.ntmps25
    go_wp2_with fail
    go_ret
    exact ⟨rfl, rfl⟩
  · have i1 : (decide ((q : Int) < 1)) = false := by rw [decide_eq_false_iff_not]; omega
    by_cases h2 : 128 < q
    · have i2 : (128 : Int) < (q : Int) := by omega
      clear h h1 hq
      go_enter Tryd.func25, Tryd.ntmps25
      go_wp2_with fail
      go_ret
      exact ⟨rfl, rfl⟩
    · have i2 : (decide ((128 : Int) < (q : Int))) = false := by rw [decide_eq_false_iff_not]; omega
      obtain ⟨m, hm⟩ : ∃ m, n % 8192 = m := ⟨_, rfl⟩
      have j2 : (n : Int).tmod 8192 = (m : Int) := by rw [Int.tmod_eq_emod_of_nonneg (by omega)]; omega
      have j4 : (n : Int) % 8192 = (m : Int) := by omega
      have i3 : ((m : Int) != 0) = true := by rw [bne_iff_ne]; omega
      clear h h1 h2 hq hm
      go_enter Tryd.func25, Tryd.ntmps25
      go_wp2_with fail
      go_ret
      exact ⟨rfl, rfl⟩
theorem rcCheck_ok (n c : Nat) (o : Option Addr) (w : World) (h : ChkOk n) :
    Calls Tryd.prog 28 #[.slice o n c] w fun e w' => e = .returned (.int .i64 0) ∧ w = w' := by
  obtain ⟨h1, h2, h3⟩ := h
  have j2 : (n : Int).tmod 8192 = 0 := by rw [Int.tmod_eq_emod_of_nonneg (by omega)]; omega
  have j4 : (n : Int) % 8192 = 0 := by omega
  have i1 : ((n : Int) == 0) = false := by rw [beq_eq_false_iff_ne]; omega
  have i2 : (decide ((1048576 : Int) < (n : Int))) = false := by rw [decide_eq_false_iff_not]; omega
  go_enter Tryd.func28, Tryd.ntmps28
  go_wp2_with fail
  go_ret
  exact ⟨rfl, rfl⟩
theorem rcCheck_bad (n c : Nat) (o : Option Addr) (w : World) (hn : n ≤ maxLen) (h : ¬ ChkOk n) :
    Calls Tryd.prog 28 #[.slice o n c] w fun e w' => e = .returned (.int .i64 6) ∧ w = w' := by
  unfold ChkOk at h
  unfold maxLen at hn
  by_cases h1 : n = 0
  · subst h1
    go_enter Tryd.func28, Tryd.ntmps28
    go_wp2_with fail
    go_ret
    exact ⟨rfl, rfl⟩
  · have i1 : ((n : Int) == 0) = false := by rw [beq_eq_false_iff_ne]; omega
    obtain ⟨m, hm⟩ : ∃ m, n % 8192 = m := ⟨_, rfl⟩
    have j2 : (n : Int).tmod 8192 = (m : Int) := by rw [Int.tmod_eq_emod_of_nonneg (by omega)]; omega
    have j4 : (n : Int) % 8192 = (m : Int) := by omega
    by_cases h2 : m = 0
    · have i3 : ((m : Int) != 0) = false := by rw [h2]; rfl
      have i4 : (1048576 : Int) < (n : Int) := by omega
      clear h h1 h2 hm
      go_enter Tryd.func28, Tryd.ntmps28
      go_wp2_with fail
      go_ret
      exact ⟨rfl, rfl⟩
    · have i3 : ((m : Int) != 0) = true := by rw [bne_iff_ne]; omega
      clear h h1 h2 hm
      go_enter Tryd.func28, Tryd.ntmps28
      go_wp2_with fail
      go_ret
      exact ⟨rfl, rfl⟩
end Go.Proofs.YtdhdknjefjolpaaDoor
end
section
/-
  cart: Make; gannetref04: Make.
-/
namespace Go.Proofs.YtdhdknjefjolpaaDoor
set_option linter.unusedSimpArgs false
set_option linter.unusedVariables false
set_option maxRecDepth 10000
open Go.RowKit

/-- The bytes behind k pieces. -/
def mkF (At : Nat → Int) (Ln : Nat → Nat) (By : Nat → Nat → Int) : Nat → Nat → Int
  | 0 => fun _ => 0
  | k + 1 => layF (mkF At Ln By k) (At k).toNat (Ln k) (By k)
theorem layF_step (F L : Nat → Int) (p k : Nat) : (fun q => if q = p + k then L k else layF F p k L q) = layF F p (k + 1) L := by
  funext q
  unfold layF
  by_cases h : q = p + k
  · rw [if_pos h, if_pos (by omega), show q - p = k from by omega]
  · rw [if_neg h]
    by_cases h2 : p ≤ q ∧ q < p + k
    · rw [if_pos h2, if_pos (by omega)]
    · rw [if_neg h2, if_neg (by omega)]
theorem layF_zero (F L : Nat → Int) (p : Nat) : layF F p 0 L = F := by
  funext q
  unfold layF
  rw [if_neg (by omega)]
set_option maxHeartbeats 4000000 in
theorem mk_walk (m N : Nat) (a : Option Addr) (n c : Nat) (At : Nat → Int) (O : Nat → Option Addr) (Ln Cp : Nat → Nat) (By : Nat → Nat → Int) (w : World) (hm : 1 ≤ m ∧ m ≤ 128) (hN : m * 8192 = N) (hn : n ≤ maxLen) (hP : PieB w a n At O Ln Cp By w.heap.size) :
    Calls Tryd.prog 62 #[.int .i64 (m : Int), .slice a n c] w fun e w' => Below w.heap.size w w' ∧
      ((∃ i, i < n ∧ (∀ j, j < i → Fits N (At j) (Ln j)) ∧ ¬ Fits N (At i) (Ln i) ∧ e = .returned (.tuple #[.slice none 0 0, .agg (fltA (1, i))])) ∨
       ((∀ j, j < n → Fits N (At j) (Ln j)) ∧ ∃ g, e = .returned (.tuple #[.slice (some ⟨g, 0, none⟩) N N, .agg (fltA (0, 0))]) ∧ RW w' g N (mkF At Ln By n) ∧ w.heap.size ≤ g)) := by
  unfold maxLen at hn
  obtain ⟨i0, hi, hz0, hz1, hz2⟩ := info_parts infoU8
  have hmk := fun W => run_make_arr (P := Tryd.prog) 22 5 i0 (.int .u8 0) 1 Tryd.underlying22 hi hz0 hz1 hz2 rfl .i64 .i64 N (by omega) (by omega) W
  have hz : Blk (w.alloc (.cells #[.int .i64 0, .int .i64 0] 34)) w.heap.size 34 #[.int .i64 0, .int .i64 0] := Blk.new _ _ _
  have hb : Below w.heap.size w (w.alloc (.cells #[.int .i64 0, .int .i64 0] 34)) := (Below.refl _ _).alloc (Nat.le_refl _) _
  have i1 : (decide ((m : Int) < 1)) = false := by rw [decide_eq_false_iff_not]; omega
  have i2 : (decide ((128 : Int) < (m : Int))) = false := by rw [decide_eq_false_iff_not]; omega
  have i3 : (m : Int) * 8192 = (N : Int) := by omega
  go_enter Tryd.func62, Tryd.ntmps62
  go_wp2_with fail
  have hZ1 : Blk ((w.alloc (.cells #[.int .i64 0, .int .i64 0] 34)).alloc (.cells (arr N fun _ => .int .u8 0) 5)) w.heap.size 34 #[.int .i64 0, .int .i64 0] := hz.alloc _
  have hR1 : RW ((w.alloc (.cells #[.int .i64 0, .int .i64 0] 34)).alloc (.cells (arr N fun _ => .int .u8 0) 5)) (w.heap.size + 1) N (mkF At Ln By 0) := Blk.newAt (by simp)
  have hb1 : Below w.heap.size w ((w.alloc (.cells #[.int .i64 0, .int .i64 0] 34)).alloc (.cells (arr N fun _ => .int .u8 0) 5)) := Bl.alloc hb _
  generalize (w.alloc (.cells #[.int .i64 0, .int .i64 0] 34)).alloc (.cells (arr N fun _ => .int .u8 0) 5) = w1 at *
  clear hz hb hmk i1 i2 i3
  go_loopw [21] (fun i wr => ∃ j : Nat, j ≤ n ∧ i = .int .i64 (j : Int) ∧ (∀ k, k < j → Fits N (At k) (Ln k)) ∧ RW wr (w.heap.size + 1) N (mkF At Ln By j) ∧ Blk wr w.heap.size 34 #[.int .i64 0, .int .i64 0] ∧ Below w.heap.size w wr) (fun i _ => n - (intOf i).toNat)
  case atStart => exact ⟨0, by omega, rfl, fun k hk => by omega, hR1, hZ1, hb1⟩
  case round =>
    obtain ⟨j, hj, rfl, hfit, hRr, hZr, hbr⟩ := hrel
    have hgl := Blk.lt hRr
    by_cases hjn : j < n
    · have hjn' : (j : Int) < (n : Int) := by omega
      obtain ⟨b, off, rfl, hlt, x0, x1, hNm⟩ := (hP.below hbr (Nat.le_refl _)) j hjn
      by_cases hft : Fits N (At j) (Ln j)
      · obtain ⟨p, hp⟩ : ∃ p : Nat, At j = (p : Int) := ⟨(At j).toNat, by have := hft.1; omega⟩
        have hpn : p + Ln j ≤ N := by have := hft.2; omega
        have hstep : mkF At Ln By (j + 1) = layF (mkF At Ln By j) p (Ln j) (By j) := by
          show layF (mkF At Ln By j) (At j).toNat (Ln j) (By j) = _
          rw [hp]; rfl
        have hfit' : ∀ k, k < j + 1 → Fits N (At k) (Ln k) := fun k hk => by
          by_cases e : k = j
          · subst e; exact hft
          · exact hfit k (by omega)
        have HF := hide hfit'
        have HS := hide hstep
        rw [hp] at x0
        have hR2 : RW (wr.alloc (.cells #[.int .i64 (p : Int), .slice (O j) (Ln j) (Cp j)] 88)) (w.heap.size + 1) N (mkF At Ln By j) := Blk.alloc hRr _
        have hZ2 : Blk (wr.alloc (.cells #[.int .i64 (p : Int), .slice (O j) (Ln j) (Cp j)] 88)) w.heap.size 34 #[.int .i64 0, .int .i64 0] := Blk.alloc hZr _
        have hb2 : Below w.heap.size w (wr.alloc (.cells #[.int .i64 (p : Int), .slice (O j) (Ln j) (Cp j)] 88)) := hbr.alloc hbr.size _
        have hN2 : NumsB (wr.alloc (.cells #[.int .i64 (p : Int), .slice (O j) (Ln j) (Cp j)] 88)) .u8 (O j) (Ln j) (By j) w.heap.size := NumsB.only (S := fun _ => False) hNm ((Only.refl _ _).alloc _) (fun _ _ e => e)
        clear hfit hfit' hstep hp hft hP hNm
        go_wp2_with fail
        generalize wr.alloc (.cells #[.int .i64 (p : Int), .slice (O j) (Ln j) (Cp j)] 88) = w2 at *
        refine (lay_ok (w.heap.size + 1) N p (Ln j) (Cp j) (mkF At Ln By j) (By j) (O j) w2 (by omega) hpn hR2 hN2.nums).mono ?_
        rintro e w3 ⟨rfl, hR3, hb3⟩
        have hZ3 := hZ2.below hb3 (by omega)
        have hb03 := hb2.trans (hb3.mono (show w.heap.size ≤ w.heap.size + 1 by omega))
        go_wp2_with fail
        go_roundw
        case rel => exact ⟨j + 1, by omega, by go_num, HF.out, by rw [HS.out]; exact hR3, hZ3, hb03⟩
        case measure => simp [intOf]; omega
      · obtain ⟨q, hq⟩ : ∃ q, At j = q := ⟨_, rfl⟩
        have hZ2 : Blk (wr.alloc (.cells #[.int .i64 q, .slice (O j) (Ln j) (Cp j)] 88)) w.heap.size 34 #[.int .i64 0, .int .i64 0] := Blk.alloc hZr _
        have hb2 : Below w.heap.size w (wr.alloc (.cells #[.int .i64 q, .slice (O j) (Ln j) (Cp j)] 88)) := hbr.alloc hbr.size _
        have HF := hide hfit
        have HT := hide hft
        have hft' : ¬ Fits N q (Ln j) := hq ▸ hft
        rw [hq] at x0
        clear hfit hft hP hNm
        go_wp2_with fail
        generalize wr.alloc (.cells #[.int .i64 q, .slice (O j) (Ln j) (Cp j)] 88) = w2 at *
        refine (lay_bad N (Ln j) (Cp j) q _ (O j) N w2 (by omega) hft').mono ?_
        rintro e w3 ⟨rfl, hb3⟩
        have hZ3 := hZ2.below hb3 hZ2.lt
        have hb03 := hb2.trans (hb3.mono hb2.size)
        go_wp2_with (refine wpList_store_row rfl 34 _ _ rfl w.heap.size _ rfl rfl 34 _ hZ3 (by kernel_rfl) rfl (by kernel_rfl) ?_)
        exact bodyPost_ret (results_tc rfl rfl (hZ3.setRow _) Tryd.underlying34 rfl (by kernel_rfl)) rfl ⟨below_setRow hb03 (by omega) _, Or.inl ⟨j, hjn, HF.out, HT.out, rfl⟩⟩
    · obtain rfl : j = n := by omega
      have HF := hide hfit
      clear hfit hP
      go_wp2_with (refine wpList_store_row rfl 34 _ _ rfl w.heap.size _ rfl rfl 34 _ hZr (by kernel_rfl) rfl (by kernel_rfl) ?_)
      refine bodyPost_ret (results_tc rfl rfl (hZr.setRow _) Tryd.underlying34 rfl (by kernel_rfl)) rfl ⟨below_setRow hbr (by omega) _, Or.inr ⟨HF.out, w.heap.size + 1, rfl, Blk.setRow_far hRr (by omega) _, by omega⟩⟩
set_option maxHeartbeats 4000000 in
theorem rk_walk (m N : Nat) (a : Option Addr) (n c : Nat) (At : Nat → Int) (O : Nat → Option Addr) (Ln Cp : Nat → Nat) (By : Nat → Nat → Int) (w : World) (hm : 1 ≤ m ∧ m ≤ 128) (hN : m * 8192 = N) (hn : n ≤ maxLen) (hP : PieB w a n At O Ln Cp By w.heap.size) :
    Calls Tryd.prog 36 #[.int .i64 (m : Int), .slice a n c] w fun e w' => Below w.heap.size w w' ∧
      ((∃ i, i < n ∧ (∀ j, j < i → Fits N (At j) (Ln j)) ∧ ¬ Fits N (At i) (Ln i) ∧ e = .returned (.tuple #[.slice none 0 0, .agg (fltA (1, i))])) ∨
       ((∀ j, j < n → Fits N (At j) (Ln j)) ∧ ∃ g, e = .returned (.tuple #[.slice (some ⟨g, 0, none⟩) N N, .agg (fltA (0, 0))]) ∧ RW w' g N (mkF At Ln By n) ∧ w.heap.size ≤ g)) := by
  unfold maxLen at hn
  obtain ⟨i0, hi, hz0, hz1, hz2⟩ := info_parts infoU8
  have hmk := fun W => run_make_arr (P := Tryd.prog) 22 5 i0 (.int .u8 0) 1 Tryd.underlying22 hi hz0 hz1 hz2 rfl .i64 .i64 N (by omega) (by omega) W
  have hz : Blk (w.alloc (.cells #[.int .i64 0, .int .i64 0] 34)) w.heap.size 34 #[.int .i64 0, .int .i64 0] := Blk.new _ _ _
  have hb : Below w.heap.size w (w.alloc (.cells #[.int .i64 0, .int .i64 0] 34)) := (Below.refl _ _).alloc (Nat.le_refl _) _
  have i1 : (decide ((m : Int) < 1)) = false := by rw [decide_eq_false_iff_not]; omega
  have i2 : (decide ((128 : Int) < (m : Int))) = false := by rw [decide_eq_false_iff_not]; omega
  have i3 : (m : Int) * 8192 = (N : Int) := by omega
  go_enter Tryd.func36, Tryd.ntmps36
  go_wp2_with fail
  have hZ1 : Blk ((w.alloc (.cells #[.int .i64 0, .int .i64 0] 34)).alloc (.cells (arr N fun _ => .int .u8 0) 5)) w.heap.size 34 #[.int .i64 0, .int .i64 0] := hz.alloc _
  have hR1 : RW ((w.alloc (.cells #[.int .i64 0, .int .i64 0] 34)).alloc (.cells (arr N fun _ => .int .u8 0) 5)) (w.heap.size + 1) N (mkF At Ln By 0) := Blk.newAt (by simp)
  have hb1 : Below w.heap.size w ((w.alloc (.cells #[.int .i64 0, .int .i64 0] 34)).alloc (.cells (arr N fun _ => .int .u8 0) 5)) := Bl.alloc hb _
  generalize (w.alloc (.cells #[.int .i64 0, .int .i64 0] 34)).alloc (.cells (arr N fun _ => .int .u8 0) 5) = w1 at *
  clear hz hb hmk i1 i2 i3
  go_loopw [7] (fun i wr => ∃ j : Nat, j ≤ n ∧ i = .int .i64 (j : Int) ∧ (∀ k, k < j → Fits N (At k) (Ln k)) ∧ RW wr (w.heap.size + 1) N (mkF At Ln By j) ∧ Blk wr w.heap.size 34 #[.int .i64 0, .int .i64 0] ∧ Below w.heap.size w wr) (fun i _ => n - (intOf i).toNat)
  case atStart => exact ⟨0, by omega, rfl, fun k hk => by omega, hR1, hZ1, hb1⟩
  case round =>
    obtain ⟨j, hj, rfl, hfit, hRr, hZr, hbr⟩ := hrel
    have hgl := Blk.lt hRr
    by_cases hjn : j < n
    · have hjn' : (j : Int) < (n : Int) := by omega
      have hPr := (hP.below hbr (Nat.le_refl _)) j hjn
      obtain ⟨b, off, rfl, hlt, x0, x1, hNm⟩ := hPr
      by_cases hft : Fits N (At j) (Ln j)
      · obtain ⟨p, hp⟩ : ∃ p : Nat, At j = (p : Int) := ⟨(At j).toNat, by have := hft.1; omega⟩
        obtain ⟨l, hl⟩ : ∃ l, Ln j = l := ⟨_, rfl⟩
        have hpn : p + l ≤ N := by have := hft.2; omega
        have hstep : mkF At Ln By (j + 1) = layF (mkF At Ln By j) p l (By j) := by
          show layF (mkF At Ln By j) (At j).toNat (Ln j) (By j) = _
          rw [hp, hl]; rfl
        have hfit' : ∀ k, k < j + 1 → Fits N (At k) (Ln k) := fun k hk => by
          by_cases e : k = j
          · subst e; exact hft
          · exact hfit k (by omega)
        have HF := hide hfit'
        have HS := hide hstep
        rw [hp] at x0
        rw [hl] at x1 hNm
        have hX2 : Blk (wr.alloc (.cells #[.int .i64 (p : Int), .slice (O j) l (Cp j)] 88)) wr.heap.size 88 #[.int .i64 (p : Int), .slice (O j) l (Cp j)] := Blk.new _ _ _
        have hR2 : RW (wr.alloc (.cells #[.int .i64 (p : Int), .slice (O j) l (Cp j)] 88)) (w.heap.size + 1) N (mkF At Ln By j) := Blk.alloc hRr _
        have hZ2 : Blk (wr.alloc (.cells #[.int .i64 (p : Int), .slice (O j) l (Cp j)] 88)) w.heap.size 34 #[.int .i64 0, .int .i64 0] := Blk.alloc hZr _
        have hb2 : Below w.heap.size w (wr.alloc (.cells #[.int .i64 (p : Int), .slice (O j) l (Cp j)] 88)) := hbr.alloc hbr.size _
        have hN2 : NumsB (wr.alloc (.cells #[.int .i64 (p : Int), .slice (O j) l (Cp j)] 88)) .u8 (O j) l (By j) w.heap.size := NumsB.only (S := fun _ => False) hNm ((Only.refl _ _).alloc _) (fun _ _ e => e)
        have i1 : (decide ((p : Int) < 0)) = false := by rw [decide_eq_false_iff_not]; omega
        have i2 : (decide ((N : Int) < (p : Int))) = false := by rw [decide_eq_false_iff_not]; omega
        have i3 : (decide ((N : Int) - (p : Int) < (l : Int))) = false := by rw [decide_eq_false_iff_not]; omega
        have i4 : (p : Int) ≤ (N : Int) := by omega
        obtain ⟨F, hF⟩ : ∃ F, mkF At Ln By j = F := ⟨_, rfl⟩
        rw [hF] at hR2 hRr HS
        clear hfit hfit' hstep hp hft hP hNm hF hl
        go_wp2_with fail
        obtain ⟨x, hx⟩ : ∃ x, wr.heap.size = x := ⟨_, rfl⟩
        rw [hx] at hX2 hgl
        try rw [hx]
        generalize wr.alloc (.cells #[.int .i64 (p : Int), .slice (O j) l (Cp j)] 88) = w2 at *
        have y0 : w2.cell? ⟨x, 0, none⟩ = some (.int .i64 (p : Int)) := hX2.cell 0
        have y1 : w2.cell? ⟨x, 1, none⟩ = some (.slice (O j) l (Cp j)) := hX2.cell 1
        go_wp2_with fail
        go_loopw [9] (fun i wx => ∃ k : Nat, k ≤ l ∧ i = .int .i64 (k : Int) ∧ RW wx (w.heap.size + 1) N (layF F p k (By j)) ∧ Blk wx x 88 #[.int .i64 (p : Int), .slice (O j) l (Cp j)] ∧ Only (fun b => b = w.heap.size + 1) w2 wx) (fun i _ => l - (intOf i).toNat)
        case atStart => exact ⟨0, by omega, rfl, by rw [layF_zero]; exact hR2, hX2, Only.refl _ _⟩
        case round =>
          obtain ⟨k, hk, rfl, hRk, hXk, hok⟩ := hrel
          have z0 : wr.cell? ⟨x, 0, none⟩ = some (.int .i64 (p : Int)) := hXk.cell 0
          have z1 : wr.cell? ⟨x, 1, none⟩ = some (.slice (O j) l (Cp j)) := hXk.cell 1
          by_cases hkl : k < l
          · have hkl' : (k : Int) < (l : Int) := by omega
            obtain ⟨b2, o2, ho2, hlt2, hc2⟩ := (hN2.only hok (fun q hq e => by omega)) k hkl
            rw [ho2] at z1
            have hpk : p + k < N := by omega
            have hpk' : (p : Int) + (k : Int) < (N : Int) := by omega
            have hpk2 : (N : Int) ≤ 1048576 := by omega
            have d0 : wr.drew.cell? ⟨x, 0, none⟩ = some (.int .i64 (p : Int)) := z0
            have d1 : wr.drew.cell? ⟨x, 1, none⟩ = some (.slice (some ⟨b2, o2, none⟩) l (Cp j)) := z1
            have d2 : wr.drew.cell? ⟨b2, o2 + k, none⟩ = some (.int .u8 (By j k)) := hc2
            have d3 : wr.drew.cell? ⟨w.heap.size + 1, p + k, none⟩ = some (.int .u8 (layF F p k (By j) (p + k))) := hRk.cell (p + k) hpk
            have d4 : wr.drew.frozen? ⟨w.heap.size + 1, p + k, none⟩ = false := Blk.frozen hRk (p + k)
            have hRs : RW ((wr.setCell ⟨w.heap.size + 1, p + k, none⟩ (.int .u8 (By j k))).drew) (w.heap.size + 1) N (layF F p (k + 1) (By j)) := by
              have := hRk.set (p + k) hpk (By j k)
              rw [layF_step] at this
              exact this
            have hXs : Blk ((wr.setCell ⟨w.heap.size + 1, p + k, none⟩ (.int .u8 (By j k))).drew) x 88 #[.int .i64 (p : Int), .slice (O j) l (Cp j)] := Blk.far hXk (p := ⟨w.heap.size + 1, p + k, none⟩) (by simp; omega) _
            have hos : Only (fun b => b = w.heap.size + 1) w2 ((wr.setCell ⟨w.heap.size + 1, p + k, none⟩ (.int .u8 (By j k))).drew) := (Only.setCell (S := fun b => b = w.heap.size + 1) hok ⟨w.heap.size + 1, p + k, none⟩ rfl _).drew
            clear y0 y1
            go_wp2_with fail
            go_region
            all_goals
              go_wp2_with fail
              go_roundw
              case rel => exact ⟨k + 1, by omega, by go_num, hRs, hXs, hos⟩
              case measure => simp [intOf]; omega
          · obtain rfl : k = l := by omega
            have hZ3 := Blk.only hZ2 hok (by omega)
            have hb03 := hb2.trans (hok.below hb2.size (fun q e => by omega))
            go_wp2_with fail
            go_roundw
            case rel => exact ⟨j + 1, by omega, by go_num, HF.out, by rw [HS.out]; exact hRk, hZ3, hb03⟩
            case measure => simp [intOf]; omega
      · obtain ⟨q, hq⟩ : ∃ q, At j = q := ⟨_, rfl⟩
        obtain ⟨l, hl⟩ : ∃ l, Ln j = l := ⟨_, rfl⟩
        have hX2 : Blk (wr.alloc (.cells #[.int .i64 q, .slice (O j) l (Cp j)] 88)) wr.heap.size 88 #[.int .i64 q, .slice (O j) l (Cp j)] := Blk.new _ _ _
        have hZ2 : Blk (wr.alloc (.cells #[.int .i64 q, .slice (O j) l (Cp j)] 88)) w.heap.size 34 #[.int .i64 0, .int .i64 0] := Blk.alloc hZr _
        have hb2 : Below w.heap.size w (wr.alloc (.cells #[.int .i64 q, .slice (O j) l (Cp j)] 88)) := hbr.alloc hbr.size _
        have HF := hide hfit
        have HT := hide hft
        have hft' : ¬ Fits N q l := hq ▸ hl ▸ hft
        rw [hq] at x0
        rw [hl] at x1
        clear hfit hft hP hNm hl hq
        unfold Fits at hft'
        by_cases h1 : q < 0
        · clear hft'
          go_upto_region 9 with fail
          go_wp2_with (refine wpList_store_row rfl 34 _ _ rfl w.heap.size _ rfl rfl 34 _ hZ2 (by kernel_rfl) rfl (by kernel_rfl) ?_)
          exact bodyPost_ret (results_tc rfl rfl (hZ2.setRow _) Tryd.underlying34 rfl (by kernel_rfl)) rfl ⟨below_setRow hb2 (by omega) _, Or.inl ⟨j, hjn, HF.out, HT.out, rfl⟩⟩
        · have i1 : (decide (q < 0)) = false := decide_eq_false h1
          by_cases h2 : (N : Int) < q
          · clear hft' h1
            go_upto_region 9 with fail
            go_wp2_with (refine wpList_store_row rfl 34 _ _ rfl w.heap.size _ rfl rfl 34 _ hZ2 (by kernel_rfl) rfl (by kernel_rfl) ?_)
            exact bodyPost_ret (results_tc rfl rfl (hZ2.setRow _) Tryd.underlying34 rfl (by kernel_rfl)) rfl ⟨below_setRow hb2 (by omega) _, Or.inl ⟨j, hjn, HF.out, HT.out, rfl⟩⟩
          · have i2 : (decide ((N : Int) < q)) = false := decide_eq_false h2
            have i3 : (N : Int) - q < (l : Int) := by omega
            obtain ⟨r, rfl⟩ : ∃ r : Nat, q = (r : Int) := ⟨q.toNat, by omega⟩
            have i4 : (r : Int) ≤ (N : Int) := by omega
            clear hft' h1 h2
            go_upto_region 9 with fail
            go_wp2_with (refine wpList_store_row rfl 34 _ _ rfl w.heap.size _ rfl rfl 34 _ hZ2 (by kernel_rfl) rfl (by kernel_rfl) ?_)
            exact bodyPost_ret (results_tc rfl rfl (hZ2.setRow _) Tryd.underlying34 rfl (by kernel_rfl)) rfl ⟨below_setRow hb2 (by omega) _, Or.inl ⟨j, hjn, HF.out, HT.out, rfl⟩⟩
    · obtain rfl : j = n := by omega
      have HF := hide hfit
      clear hfit hP
      go_wp2_with (refine wpList_store_row rfl 34 _ _ rfl w.heap.size _ rfl rfl 34 _ hZr (by kernel_rfl) rfl (by kernel_rfl) ?_)
      refine bodyPost_ret (results_tc rfl rfl (hZr.setRow _) Tryd.underlying34 rfl (by kernel_rfl)) rfl ⟨below_setRow hbr (by omega) _, Or.inr ⟨HF.out, w.heap.size + 1, rfl, Blk.setRow_far hRr (by omega) _, by omega⟩⟩
end Go.Proofs.YtdhdknjefjolpaaDoor
end
section
/-
  A scope with two labels; cart: run.
-/
namespace Go
set_option linter.unusedSimpArgs false
set_option linter.unusedVariables false
set_option maxRecDepth 10000

/-- By a goto: J, by its label; else Q. -/
def Exit.jumps (J : Nat → Act → World → Prop) (Q : Exit → Act → World → Prop) : Exit → Act → World → Prop
  | .goto l, a, w => J l a w
  | e, a, w => Q e a w
section
variable {P : Program} {a : Act} {w : World} {Q : Exit → Act → World → Prop}
theorem wp_scope_many {c : Code} (rest : Nat → Code) (J : Nat → Act → World → Prop) (μ : Nat → Act → World → Nat) (hf : ∀ l a w, J l a w → findLabel c l = some (rest l))
    (first : c.wp P (Exit.jumps J Q) a w)
    (pass : ∀ l a w, J l a w → (rest l).wp P (Exit.jumps (fun l' a' w' => J l' a' w' ∧ μ l' a' w' < μ l a w) Q) a w) : (Code.scope c).wp P Q a w := by
  intro b k cs
  have hg : ∀ l a w, J l a w → gotoIn l (.inScope c :: k) = some (.code (rest l) :: .inScope c :: k) := fun l a w h => by simp [gotoIn, hf l a w h]
  have key : ∀ n l a w, μ l a w = n → J l a w → ∃ e a' w', Q e a' w' ∧ Arrives P (lone (b.at a (.code (rest l) :: .inScope c :: k)) cs w) b k cs e a' w' := by
    intro n
    induction n using Nat.strongRecOn with
    | _ n ih =>
      intro l a w hn hJ
      obtain ⟨e, a₁, w₁, hq, harr⟩ := pass l a w hJ b (.inScope c :: k) cs
      cases e with
      | normal => exact ⟨.normal, a₁, w₁, hq, Steps.trans harr (.one step_inScope)⟩
      | exit id => exact ⟨.exit id, a₁, w₁, hq, fun k' hk => harr k' (by simp [exitTo, hk])⟩
      | goto l' =>
        obtain ⟨hJ', hlt⟩ := hq
        obtain ⟨e₂, a₂, w₂, hq₂, harr₂⟩ := ih _ (by omega) l' a₁ w₁ rfl hJ'
        exact ⟨e₂, a₂, w₂, hq₂, .of_steps (harr _ (hg _ _ _ hJ')) harr₂⟩
      | ret => exact ⟨_, a₁, w₁, hq, harr⟩
      | panic ch => exact ⟨_, a₁, w₁, hq, harr⟩
      | outgrown => exact ⟨_, a₁, w₁, hq, harr⟩
  obtain ⟨e, a₁, w₁, hq, harr⟩ := first b (.inScope c :: k) cs
  cases e with
  | normal => exact ⟨.normal, a₁, w₁, hq, .head step_scope (Steps.trans harr (.one step_inScope))⟩
  | exit id => exact ⟨.exit id, a₁, w₁, hq, fun k' hk => .head step_scope (harr k' (by simp [exitTo, hk]))⟩
  | goto l' =>
    have hJ' : J l' a₁ w₁ := hq
    obtain ⟨e₂, a₂, w₂, hq₂, harr₂⟩ := key _ l' a₁ w₁ rfl hJ'
    exact ⟨e₂, a₂, w₂, hq₂, .of_steps (.head step_scope (harr _ (hg _ _ _ hJ'))) harr₂⟩
  | ret => exact ⟨_, a₁, w₁, hq, .of_steps (.one step_scope) harr⟩
  | panic ch => exact ⟨_, a₁, w₁, hq, .of_steps (.one step_scope) harr⟩
  | outgrown => exact ⟨_, a₁, w₁, hq, .of_steps (.one step_scope) harr⟩
theorem wp_scope_two {c : Code} (r0 r1 : Code) (J0 J1 : Act → World → Prop) (μ0 μ1 : Act → World → Nat) (h0 : findLabel c 0 = some r0) (h1 : findLabel c 1 = some r1)
    (first : c.wp P (Exit.jumps (fun l a w => (l = 0 ∧ J0 a w) ∨ (l = 1 ∧ J1 a w)) Q) a w)
    (pass0 : ∀ a w, J0 a w → r0.wp P (Exit.jumps (fun l' a' w' => (l' = 0 ∧ J0 a' w' ∧ μ0 a' w' < μ0 a w) ∨ (l' = 1 ∧ J1 a' w' ∧ μ1 a' w' < μ0 a w)) Q) a w)
    (pass1 : ∀ a w, J1 a w → r1.wp P (Exit.jumps (fun l' a' w' => (l' = 0 ∧ J0 a' w' ∧ μ0 a' w' < μ1 a w) ∨ (l' = 1 ∧ J1 a' w' ∧ μ1 a' w' < μ1 a w)) Q) a w) : (Code.scope c).wp P Q a w := by
  refine wp_scope_many (fun l => if l = 0 then r0 else r1) (fun l a w => (l = 0 ∧ J0 a w) ∨ (l = 1 ∧ J1 a w)) (fun l a w => if l = 0 then μ0 a w else μ1 a w) ?_ first ?_
  · rintro l a w (⟨rfl, _⟩ | ⟨rfl, _⟩)
    · rw [if_pos rfl]; exact h0
    · rw [if_neg (by decide)]; exact h1
  · rintro l a w (⟨rfl, hJ⟩ | ⟨rfl, hJ⟩)
    · rw [if_pos rfl, if_pos rfl]
      refine Code.wp_mono ?_ (pass0 a w hJ)
      intro e a' w' h
      cases e with
      | goto l' =>
        rcases h with ⟨rfl, h1, h2⟩ | ⟨rfl, h1, h2⟩
        · exact ⟨Or.inl ⟨rfl, h1⟩, by rw [if_pos rfl]; exact h2⟩
        · exact ⟨Or.inr ⟨rfl, h1⟩, by rw [if_neg (by decide)]; exact h2⟩
      | _ => exact h
    · rw [if_neg (by decide), if_neg (by decide)]
      refine Code.wp_mono ?_ (pass1 a w hJ)
      intro e a' w' h
      cases e with
      | goto l' =>
        rcases h with ⟨rfl, h1, h2⟩ | ⟨rfl, h1, h2⟩
        · exact ⟨Or.inl ⟨rfl, h1⟩, by rw [if_pos rfl]; exact h2⟩
        · exact ⟨Or.inr ⟨rfl, h1⟩, by rw [if_neg (by decide)]; exact h2⟩
      | _ => exact h
end
end Go
namespace Go.Proofs.YtdhdknjefjolpaaDoor
open Go.RowKit

/-- The frame of run. -/
def frR (b t e : Value) (u : Nat → Value) : Act := { tmps := #[b, t, u 2, u 3, u 4, u 5, u 6, e, u 8, u 9, u 10, u 11, u 12, u 13, u 14, u 15, u 16, u 17, u 18, u 19, u 20, u 21, u 22, u 23, u 24, u 25, u 26, u 27, u 28, u 29, u 30, u 31, u 32, u 33, u 34, u 35], defers := [] }
theorem frR_list (l : List Value) (h : l.length = 36) : ({ tmps := l.toArray, defers := [] } : Act) = frR (l.getD 0 undef) (l.getD 1 undef) (l.getD 7 undef) (fun i => l.getD i undef) := by
  have e : l = (List.range 36).map (fun i => l.getD i undef) := by
    apply List.ext_getElem?
    intro i
    by_cases hi : i < 36
    · have h1 : i < l.length := by omega
      simp [hi, h1]
    · have h1 : l.length ≤ i := by omega
      simp [hi, h1]
  have e2 : l.toArray = ((List.range 36).map (fun i => l.getD i undef)).toArray := congrArg _ e
  rw [e2]
  rfl
theorem at0 {Q : Nat → Prop} {b : Value} (l : List Value) (h : l.length = 36) (j : Nat) (hb : l.getD 0 undef = b) (ht : l.getD 1 undef = .int .i64 (j : Int)) (hq : Q j) : ∃ (j : Nat) (e : Value) (u : Nat → Value), Q j ∧ ({ tmps := l.toArray, defers := [] } : Act) = frR b (.int .i64 (j : Int)) e u := by
  subst hb
  refine ⟨j, l.getD 7 undef, fun i => l.getD i undef, hq, ?_⟩
  rw [← ht]
  exact frR_list l h
theorem at1 {Q : Nat → Prop} {b t : Value} (l : List Value) (h : l.length = 36) (j : Nat) (hb : l.getD 0 undef = b) (ht : l.getD 1 undef = t) (he : l.getD 7 undef = .int .i64 (j : Int)) (hq : Q j) : ∃ (j : Nat) (u : Nat → Value), Q j ∧ ({ tmps := l.toArray, defers := [] } : Act) = frR b t (.int .i64 (j : Int)) u := by
  subst hb ht
  refine ⟨j, fun i => l.getD i undef, hq, ?_⟩
  rw [← he]
  exact frR_list l h
/-- From a place on: the first byte that isn't 0; the first that is. -/
def nzA (F : Nat → Int) : Nat → Nat → Nat
  | 0, i => i
  | m + 1, i => if F i = 0 then nzA F m (i + 1) else i
def ezA (F : Nat → Int) : Nat → Nat → Nat
  | 0, i => i
  | m + 1, i => if F i = 0 then i else ezA F m (i + 1)
theorem nzA_step {F : Nat → Int} {n i : Nat} (h : i < n) (hz : F i = 0) : nzA F (n - i) i = nzA F (n - (i + 1)) (i + 1) := by
  obtain ⟨m, hm⟩ : ∃ m, n - i = m + 1 := ⟨n - i - 1, by omega⟩
  rw [hm, show n - (i + 1) = m from by omega]
  exact if_pos hz
theorem nzA_stop {F : Nat → Int} {n i : Nat} (h : i < n) (hz : F i ≠ 0) : nzA F (n - i) i = i := by
  obtain ⟨m, hm⟩ : ∃ m, n - i = m + 1 := ⟨n - i - 1, by omega⟩
  rw [hm]
  exact if_neg hz
theorem ezA_step {F : Nat → Int} {n i : Nat} (h : i < n) (hz : F i ≠ 0) : ezA F (n - i) i = ezA F (n - (i + 1)) (i + 1) := by
  obtain ⟨m, hm⟩ : ∃ m, n - i = m + 1 := ⟨n - i - 1, by omega⟩
  rw [hm, show n - (i + 1) = m from by omega]
  exact if_neg hz
theorem ezA_stop {F : Nat → Int} {n i : Nat} (h : i < n) (hz : F i = 0) : ezA F (n - i) i = i := by
  obtain ⟨m, hm⟩ : ∃ m, n - i = m + 1 := ⟨n - i - 1, by omega⟩
  rw [hm]
  exact if_pos hz
set_option maxRecDepth 100000 in
set_option maxHeartbeats 4000000 in
theorem ctRun_calls (n c i f g : Nat) (o : Option Addr) (F : Nat → Int) (w : World) (hn : n ≤ 1048576) (hi : i ≤ n) (hL : NumsAt w .u8 o n F) (hJ : nzA F (n - i) i = f) (hG : ezA F (n - f) f = g) :
    Calls Tryd.prog 68 #[.slice o n c, .int .i64 (i : Int)] w fun e w' => w' = w ∧ ((f = n ∧ e = .returned (.tuple #[.int .i64 0, .int .i64 0, .bool false])) ∨ (f < n ∧ e = .returned (.tuple #[.int .i64 (f : Int), .int .i64 (g : Int), .bool true]))) := by
  go_enter Tryd.func68, Tryd.ntmps68
  go_wp2_with fail
  refine wp_scope_two _ _ (fun a w' => w' = w ∧ ∃ (j : Nat) (e : Value) (u : Nat → Value), (j ≤ n ∧ nzA F (n - j) j = f) ∧ a = frR (.slice o n c) (.int .i64 (j : Int)) e u)
    (fun a w' => w' = w ∧ ∃ (e : Nat) (u : Nat → Value), (f < n ∧ e ≤ n ∧ ezA F (n - e) e = g) ∧ a = frR (.slice o n c) (.int .i64 (f : Int)) (.int .i64 (e : Int)) u)
    (fun a _ => n + 1 + (n - (intOf (a.tmps.getD 1 undef)).toNat)) (fun a _ => n - (intOf (a.tmps.getD 7 undef)).toNat) rfl rfl ?_ ?_ ?_
  · go_wp2_with fail
    go_step3
    by_cases hjn : i < n
    · have hjn' : ((i : Int) == (n : Int)) = false := by rw [beq_eq_false_iff_ne]; omega
      have hjn2 : (i : Int) < (n : Int) := by omega
      obtain ⟨b, off, rfl, hlt, hc⟩ := hL i hjn
      by_cases hz : F i = 0
      · rw [nzA_step hjn hz] at hJ
        rw [hz] at hc
        have H := hide hJ
        clear hJ hz
        go_wp2_with fail
        go_step3
        have ej : (i : Int) + 1 = ((i + 1 : Nat) : Int) := by omega
        rw [ej]
        exact Or.inl ⟨rfl, rfl, at0 (Q := fun j => j ≤ n ∧ nzA F (n - j) j = f) _ rfl (i + 1) rfl rfl ⟨by omega, H.out⟩⟩
      · rw [nzA_stop hjn hz] at hJ
        have hne : (F i == 0) = false := beq_eq_false_iff_ne.2 hz
        have hne2 : (F i != 0) = true := by rw [bne_iff_ne]; exact hz
        subst hJ
        have hG2 := hG
        rw [ezA_step hjn hz] at hG2
        have H := hide hG2
        clear hG2 hz
        go_wp2_with fail
        go_step3
        go_wp2_with fail
        go_step3
        have ej : (i : Int) + 1 = ((i + 1 : Nat) : Int) := by omega
        rw [ej]
        exact Or.inr ⟨rfl, rfl, at1 (Q := fun e => i < n ∧ e ≤ n ∧ ezA F (n - e) e = g) _ rfl (i + 1) rfl rfl rfl ⟨hjn, by omega, H.out⟩⟩
    · obtain rfl : i = n := by omega
      have hjn' : ((i : Int) == (i : Int)) = true := beq_self_eq_true _
      rw [Nat.sub_self] at hJ
      have hJ : i = f := hJ
      have H := hide hJ
      clear hJ
      go_wp2_with fail
      (try subst hQ)
      simp only [Exit.jumps]
      go_ret3
      exact ⟨rfl, Or.inl ⟨H.out.symm, rfl⟩⟩
  · rintro a w' ⟨rfl, j, e, u, ⟨hj, hJ⟩, rfl⟩
    go_hide hQ
    unfold frR
    by_cases hjn : j < n
    · have hjn' : ((j : Int) == (n : Int)) = false := by rw [beq_eq_false_iff_ne]; omega
      have hjn2 : (j : Int) < (n : Int) := by omega
      obtain ⟨b, off, rfl, hlt, hc⟩ := hL j hjn
      by_cases hz : F j = 0
      · rw [nzA_step hjn hz] at hJ
        rw [hz] at hc
        have H := hide hJ
        clear hJ hz
        go_wp2_with fail
        go_step3
        have ej : (j : Int) + 1 = ((j + 1 : Nat) : Int) := by omega
        rw [ej]
        subst hQ
        exact Or.inl ⟨rfl, ⟨rfl, at0 (Q := fun j => j ≤ n ∧ nzA F (n - j) j = f) _ rfl (j + 1) rfl rfl ⟨by omega, H.out⟩⟩, by simp [frR, intOf]; omega⟩
      · rw [nzA_stop hjn hz] at hJ
        have hne : (F j == 0) = false := beq_eq_false_iff_ne.2 hz
        have hne2 : (F j != 0) = true := by rw [bne_iff_ne]; exact hz
        subst hJ
        have hG2 := hG
        rw [ezA_step hjn hz] at hG2
        have H := hide hG2
        clear hG2 hz
        go_wp2_with fail
        go_step3
        go_wp2_with fail
        go_step3
        have ej : (j : Int) + 1 = ((j + 1 : Nat) : Int) := by omega
        rw [ej]
        subst hQ
        exact Or.inr ⟨rfl, ⟨rfl, at1 (Q := fun e => j < n ∧ e ≤ n ∧ ezA F (n - e) e = g) _ rfl (j + 1) rfl rfl rfl ⟨hjn, by omega, H.out⟩⟩, by simp [frR, intOf]; omega⟩
    · obtain rfl : j = n := by omega
      have hjn' : ((j : Int) == (j : Int)) = true := beq_self_eq_true _
      rw [Nat.sub_self] at hJ
      have hJ : j = f := hJ
      have H := hide hJ
      clear hJ
      go_wp2_with fail
      (try subst hQ)
      simp only [Exit.jumps]
      go_ret3
      exact ⟨rfl, Or.inl ⟨H.out.symm, rfl⟩⟩
  · rintro a w' ⟨rfl, j, u, ⟨hfn, hj, hG⟩, rfl⟩
    go_hide hQ
    unfold frR
    by_cases hjn : j < n
    · have hjn2 : (j : Int) < (n : Int) := by omega
      obtain ⟨b, off, rfl, hlt, hc⟩ := hL j hjn
      by_cases hz : F j = 0
      · rw [ezA_stop hjn hz] at hG
        rw [hz] at hc
        have H := hide hG
        clear hG hz
        go_wp2_with fail
        subst hQ
        simp only [Exit.jumps]
        go_ret3
        exact ⟨rfl, Or.inr ⟨hfn, by rw [H.out]; rfl⟩⟩
      · rw [ezA_step hjn hz] at hG
        have hne2 : (F j != 0) = true := by rw [bne_iff_ne]; exact hz
        have H := hide hG
        clear hG hz
        go_wp2_with fail
        go_step3
        have ej : (j : Int) + 1 = ((j + 1 : Nat) : Int) := by omega
        rw [ej]
        subst hQ
        exact Or.inr ⟨rfl, ⟨rfl, at1 (Q := fun e => f < n ∧ e ≤ n ∧ ezA F (n - e) e = g) _ rfl (j + 1) rfl rfl rfl ⟨hfn, by omega, H.out⟩⟩, by simp [frR, intOf]; omega⟩
    · obtain rfl : j = n := by omega
      have hjn2 : (decide ((j : Int) < (j : Int))) = false := by rw [decide_eq_false_iff_not]; omega
      rw [Nat.sub_self] at hG
      have hG : j = g := hG
      have H := hide hG
      clear hG
      go_wp2_with fail
      (try subst hQ)
      simp only [Exit.jumps]
      go_ret3
      exact ⟨rfl, Or.inr ⟨hfn, by rw [← H.out]; rfl⟩⟩
end Go.Proofs.YtdhdknjefjolpaaDoor
end
section
/-
  Runs of bytes that aren't 0; pieces that a call owns.
-/
namespace Go.Proofs.YtdhdknjefjolpaaDoor
set_option linter.unusedSimpArgs false
set_option linter.unusedVariables false
set_option maxRecDepth 10000
open Go.RowKit

/-! ### plain -/
def extL (ps : List (Nat × Nat)) (e : Nat) : List (Nat × Nat) := ps.dropLast ++ [((ps.getLast?.getD (0, 0)).1, e)]
theorem extL_snoc (ps : List (Nat × Nat)) (x : Nat × Nat) (e : Nat) : extL (ps ++ [x]) e = ps ++ [(x.1, e)] := by simp [extL]
/-- The runs of bytes that aren't 0, of the first i. -/
def runsP (F : Nat → Int) : Nat → List (Nat × Nat)
  | 0 => []
  | i + 1 => if F i = 0 then runsP F i else if 0 < i ∧ F (i - 1) ≠ 0 then extL (runsP F i) (i + 1) else runsP F i ++ [(i, i + 1)]
theorem runs_last {F : Nat → Int} : ∀ i, 0 < i → F (i - 1) ≠ 0 → ∃ ps f, runsP F i = ps ++ [(f, i)] ∧ f < i
  | 0, h, _ => absurd h (by omega)
  | i + 1, _, h => by
    have h : F i ≠ 0 := h
    unfold runsP
    rw [if_neg h]
    by_cases h2 : 0 < i ∧ F (i - 1) ≠ 0
    · rw [if_pos h2]
      obtain ⟨ps, f, e, hf⟩ := runs_last i h2.1 h2.2
      exact ⟨ps, f, by rw [e, extL_snoc], by omega⟩
    · rw [if_neg h2]
      exact ⟨_, _, rfl, by omega⟩
theorem runs_le {F : Nat → Int} : ∀ i, ∀ x ∈ runsP F i, x.1 < x.2 ∧ x.2 ≤ i
  | 0, x, h => by cases h
  | i + 1, x, h => by
    unfold runsP at h
    by_cases h1 : F i = 0
    · rw [if_pos h1] at h
      have := runs_le i x h
      omega
    · rw [if_neg h1] at h
      by_cases h2 : 0 < i ∧ F (i - 1) ≠ 0
      · rw [if_pos h2] at h
        obtain ⟨ps, f, e, hf⟩ := runs_last i h2.1 h2.2
        rw [e, extL_snoc] at h
        rcases List.mem_append.1 h with h | h
        · have := runs_le i x (by rw [e]; exact List.mem_append_left _ h)
          omega
        · simp at h; subst h; simp only; omega
      · rw [if_neg h2] at h
        rcases List.mem_append.1 h with h | h
        · have := runs_le i x h
          omega
        · simp at h; subst h; simp only; omega
theorem runs_len {F : Nat → Int} : ∀ i, (runsP F i).length ≤ i
  | 0 => Nat.le_refl _
  | i + 1 => by
    have ih := runs_len (F := F) i
    unfold runsP
    by_cases h1 : F i = 0
    · rw [if_pos h1]; omega
    · rw [if_neg h1]
      by_cases h2 : 0 < i ∧ F (i - 1) ≠ 0
      · rw [if_pos h2]
        obtain ⟨ps, f, e, hf⟩ := runs_last i h2.1 h2.2
        rw [e] at ih
        rw [e, extL_snoc]
        simp at ih ⊢
        omega
      · rw [if_neg h2]
        simp
        omega
theorem runs_zero {F : Nat → Int} {i : Nat} : ∀ k, (∀ j, i ≤ j → j < i + k → F j = 0) → runsP F (i + k) = runsP F i
  | 0, _ => rfl
  | k + 1, h => by
    have ih := runs_zero k (fun j h1 h2 => h j h1 (by omega))
    show (if F (i + k) = 0 then runsP F (i + k) else _) = _
    rw [if_pos (h (i + k) (by omega) (by omega)), ih]
theorem runs_run {F : Nat → Int} {f : Nat} (h0 : f = 0 ∨ F (f - 1) = 0) : ∀ k, (∀ j, f ≤ j → j < f + k + 1 → F j ≠ 0) → runsP F (f + k + 1) = runsP F f ++ [(f, f + k + 1)]
  | 0, h => by
    show (if F f = 0 then _ else if 0 < f ∧ F (f - 1) ≠ 0 then _ else runsP F f ++ [(f, f + 1)]) = _
    rw [if_neg (h f (by omega) (by omega)), if_neg (fun x => h0.elim (fun h1 => absurd x.1 (by omega)) x.2)]
  | k + 1, h => by
    have ih := runs_run h0 k (fun j h1 h2 => h j h1 (by omega))
    show (if F (f + k + 1) = 0 then _ else if 0 < f + k + 1 ∧ F (f + k + 1 - 1) ≠ 0 then extL (runsP F (f + k + 1)) (f + k + 1 + 1) else _) = _
    rw [if_neg (h (f + k + 1) (by omega) (by omega)), if_pos ⟨by omega, h (f + k) (by omega) (by omega)⟩, ih, extL_snoc]
    rfl
theorem nzA_spec {F : Nat → Int} : ∀ m i, i ≤ nzA F m i ∧ nzA F m i ≤ i + m ∧ (∀ j, i ≤ j → j < nzA F m i → F j = 0) ∧ (nzA F m i < i + m → F (nzA F m i) ≠ 0)
  | 0, i => ⟨Nat.le_refl _, Nat.le_refl _, fun j h1 h2 => by have h2 : j < i := h2; omega, fun h => by have h : i < i + 0 := h; omega⟩
  | m + 1, i => by
    unfold nzA
    by_cases h : F i = 0
    · rw [if_pos h]
      obtain ⟨h1, h2, h3, h4⟩ := nzA_spec (F := F) m (i + 1)
      refine ⟨by omega, by omega, fun j h5 h6 => ?_, fun h5 => h4 (by omega)⟩
      by_cases e : j = i
      · rw [e]; exact h
      · exact h3 j (by omega) h6
    · rw [if_neg h]
      exact ⟨Nat.le_refl _, by omega, fun j h1 h2 => by omega, fun _ => h⟩
theorem ezA_spec {F : Nat → Int} : ∀ m i, i ≤ ezA F m i ∧ ezA F m i ≤ i + m ∧ (∀ j, i ≤ j → j < ezA F m i → F j ≠ 0) ∧ (ezA F m i < i + m → F (ezA F m i) = 0)
  | 0, i => ⟨Nat.le_refl _, Nat.le_refl _, fun j h1 h2 => by have h2 : j < i := h2; omega, fun h => by have h : i < i + 0 := h; omega⟩
  | m + 1, i => by
    unfold ezA
    by_cases h : F i = 0
    · rw [if_pos h]
      exact ⟨Nat.le_refl _, by omega, fun j h1 h2 => by omega, fun _ => h⟩
    · rw [if_neg h]
      obtain ⟨h1, h2, h3, h4⟩ := ezA_spec (F := F) m (i + 1)
      refine ⟨by omega, by omega, fun j h5 h6 => ?_, fun h5 => h4 (by omega)⟩
      by_cases e : j = i
      · rw [e]; exact h
      · exact h3 j (by omega) h6
def mkL (F : Nat → Int) (ps : List (Nat × Nat)) : Nat → Int := ps.foldl (fun G x => layF G x.1 (x.2 - x.1) (fun j => F (x.1 + j))) (fun _ => 0)
theorem mkL_snoc (F : Nat → Int) (ps : List (Nat × Nat)) (x : Nat × Nat) : mkL F (ps ++ [x]) = layF (mkL F ps) x.1 (x.2 - x.1) (fun j => F (x.1 + j)) := by
  unfold mkL
  rw [List.foldl_append]
  rfl
/-- The runs, laid, are the bytes. -/
theorem mkL_runs (F : Nat → Int) : ∀ i, mkL F (runsP F i) = fun j => if j < i then F j else 0
  | 0 => by funext j; rw [if_neg (by omega)]; rfl
  | i + 1 => by
    have ih := mkL_runs F i
    unfold runsP
    funext j
    by_cases h1 : F i = 0
    · rw [if_pos h1, ih]
      dsimp only
      by_cases e : j = i
      · rw [e, if_neg (by omega), if_pos (by omega), h1]
      · by_cases e2 : j < i
        · rw [if_pos e2, if_pos (by omega)]
        · rw [if_neg e2, if_neg (by omega)]
    · rw [if_neg h1]
      by_cases h2 : 0 < i ∧ F (i - 1) ≠ 0
      · rw [if_pos h2]
        obtain ⟨ps, f, e, hf⟩ := runs_last i h2.1 h2.2
        rw [e, mkL_snoc] at ih
        rw [e, extL_snoc, mkL_snoc]
        have ihj := congrFun ih j
        unfold layF at ihj ⊢
        dsimp only at ihj ⊢
        by_cases e1 : j = i
        · subst e1
          rw [if_pos (by omega), if_pos (by omega), show f + (j - f) = j from by omega]
        · by_cases e2 : j < i
          · rw [if_pos e2] at ihj
            rw [if_pos (show j < i + 1 by omega), ← ihj]
            by_cases e3 : f ≤ j
            · rw [if_pos (by omega), if_pos (by omega)]
            · rw [if_neg (by omega), if_neg (by omega)]
          · rw [if_neg e2, if_neg (by omega)] at ihj
            rw [if_neg (by omega), if_neg (by omega)]
            exact ihj
      · rw [if_neg h2, mkL_snoc, ih]
        unfold layF
        dsimp only
        by_cases e1 : j = i
        · subst e1
          rw [if_pos (by omega), if_pos (by omega), show j + (j - j) = j from by omega]
        · rw [if_neg (by omega)]
          by_cases e2 : j < i
          · rw [if_pos e2, if_pos (by omega)]
          · rw [if_neg e2, if_neg (by omega)]
def pA (ps : List (Nat × Nat)) (i : Nat) : Nat := (ps.getD i (0, 0)).1
def pN (ps : List (Nat × Nat)) (i : Nat) : Nat := (ps.getD i (0, 0)).2 - (ps.getD i (0, 0)).1
def pB (F : Nat → Int) (ps : List (Nat × Nat)) (i : Nat) : Nat → Int := fun j => F (pA ps i + j)
theorem getD_old (ps : List (Nat × Nat)) (x : Nat × Nat) {i : Nat} (h : i < ps.length) : (ps ++ [x]).getD i (0, 0) = ps.getD i (0, 0) := by
  simp [List.getD, List.getElem?_append, h]
theorem getD_new (ps : List (Nat × Nat)) (x : Nat × Nat) : (ps ++ [x]).getD ps.length (0, 0) = x := by
  simp [List.getD, List.getElem?_append]
theorem pN_pos (F : Nat → Int) (n i : Nat) (h : i < (runsP F n).length) : pA (runsP F n) i + pN (runsP F n) i ≤ n ∧ 0 < pN (runsP F n) i := by
  have h1 : (runsP F n).getD i (0, 0) = (runsP F n)[i] := by simp [List.getD, h]
  have h2 := runs_le n _ (List.getElem_mem h)
  unfold pA pN
  rw [h1]
  omega

/-! ### in memory -/
theorem infoPie : (Tryd.prog.info? 88).map (fun i => (i.zero, i.size, i.bytes)) = some (some (.agg #[.int .i64 0, .slice none 0 0]), 2, 32) := by kernel_rfl
def pieV (ps : List (Nat × Nat)) (bs cp : Nat → Nat) (j : Nat) : Value := if j % 2 = 0 then .int .i64 (pA ps (j / 2) : Int) else .slice (some ⟨bs (j / 2), 0, none⟩) (pN ps (j / 2)) (cp (j / 2))
def lstP (ps : List (Nat × Nat)) (bs cp : Nat → Nat) : List Value := (List.range (ps.length * 2)).map (pieV ps bs cp)
theorem lstP_length (ps : List (Nat × Nat)) (bs cp : Nat → Nat) : (lstP ps bs cp).length = ps.length * 2 := by simp [lstP]
theorem lstP_get (ps : List (Nat × Nat)) (bs cp : Nat → Nat) (j : Nat) : (lstP ps bs cp)[j]? = if j < ps.length * 2 then some (pieV ps bs cp j) else none := by
  unfold lstP
  by_cases h : j < ps.length * 2
  · simp [h]
  · simp [h]
theorem lstP_snoc (ps : List (Nat × Nat)) (x : Nat × Nat) (bs cp : Nat → Nat) (b c : Nat) :
    lstP (ps ++ [x]) (fun i => if i = ps.length then b else bs i) (fun i => if i = ps.length then c else cp i) = lstP ps bs cp ++ [.int .i64 (x.1 : Int), .slice (some ⟨b, 0, none⟩) (x.2 - x.1) c] := by
  apply List.ext_getElem?
  intro j
  rw [List.getElem?_append, lstP_get, lstP_get, lstP_length, List.length_append, List.length_singleton]
  unfold pieV pA pN
  by_cases h : j < ps.length * 2
  · have hne : j / 2 ≠ ps.length := by omega
    rw [if_pos (by omega), if_pos h, if_pos h, getD_old ps x (by omega)]
    dsimp only
    rw [if_neg hne, if_neg hne]
  · rw [if_neg h]
    by_cases h1 : j = ps.length * 2
    · rw [if_pos (by omega), if_pos (by omega), show j / 2 = ps.length from by omega, getD_new, show j - ps.length * 2 = 0 from by omega]
      rfl
    · by_cases h2 : j = ps.length * 2 + 1
      · rw [if_pos (by omega), if_neg (by omega), show j / 2 = ps.length from by omega, getD_new, show j - ps.length * 2 = 1 from by omega]
        dsimp only
        rw [if_pos rfl, if_pos rfl]
        rfl
      · rw [if_neg (by omega)]
        rw [List.getElem?_eq_none (by simp; omega)]
theorem own_keep {w w' : World} {base n size : Nat} {e : TypeId} {v : Value} {xs : List Value} (h : w.ownsRow base e size v n xs) (hk : ∀ g, v.ownBlock = some g → w'.heap[g]? = w.heap[g]?) : w'.ownsRow base e size v n xs := by
  obtain ⟨hl, h⟩ := h
  refine ⟨hl, ?_⟩
  rcases h with h | ⟨g, cap, cur, rfl, hb, hh, r⟩
  · exact Or.inl h
  · exact Or.inr ⟨g, cap, cur, rfl, hb, (hk g rfl).trans hh, r⟩
theorem own_set {w : World} {base n size g i cap : Nat} {e : TypeId} {xs : List Value} (h : w.ownsRow base e size (.slice (some ⟨g, 0, none⟩) n cap) n xs) (hi : i < n * size) (u : Value) :
    (w.setCell ⟨g, i, none⟩ u).ownsRow base e size (.slice (some ⟨g, 0, none⟩) n cap) n (xs.set i u) := by
  obtain ⟨hl, h⟩ := h
  refine ⟨by simpa using hl, ?_⟩
  rcases h with ⟨h, _⟩ | ⟨g', cap', cur, hv, hb, hh, h1, h2, h3, h4⟩
  · cases h
  · cases hv
    refine Or.inr ⟨g, cap, cur.setIfInBounds i u, rfl, hb, ?_, h1, h2, by simpa using h3, ?_⟩
    · exact Blk.set_ (t := e) (cs := cur) hh i u
    · rw [Array.toList_setIfInBounds, List.take_set, h4]
theorem own_blk {w : World} {base n size g : Nat} {e : TypeId} {v : Value} {xs : List Value} (h : w.ownsRow base e size v n xs) (hg : v.ownBlock = some g) : base ≤ g ∧ ∃ cur, w.heap[g]? = some (.cells cur e (0, 0)) := by
  rcases h.2 with ⟨rfl, _⟩ | ⟨g', cap, cur, rfl, hb, hh, _⟩
  · cases hg
  · cases hg
    exact ⟨hb, cur, hh⟩
theorem own_type {w : World} {b1 b2 n1 n2 s1 s2 g : Nat} {e1 e2 : TypeId} {v1 v2 : Value} {x1 x2 : List Value} (h1 : w.ownsRow b1 e1 s1 v1 n1 x1) (h2 : w.ownsRow b2 e2 s2 v2 n2 x2) (he : e1 ≠ e2) (hg : v1.ownBlock = some g) : some g ≠ v2.ownBlock := fun hx => by
  obtain ⟨_, c1, k1⟩ := own_blk h1 hg
  obtain ⟨_, c2, k2⟩ := own_blk h2 hx.symm
  rw [k1] at k2
  cases k2
  exact he rfl
theorem own_lt {w : World} {base n size g : Nat} {e : TypeId} {v : Value} {xs : List Value} (h : w.ownsRow base e size v n xs) (hg : v.ownBlock = some g) : g < w.heap.size := by
  obtain ⟨_, c, k⟩ := own_blk h hg
  rcases Nat.lt_or_ge g w.heap.size with hlt | hge
  · exact hlt
  · rw [Array.getElem?_eq_none hge] at k; cases k
/-- Pieces that a call owns, the bytes of each in a block of its own. -/
def PL (w : World) (base : Nat) (v : Value) (ps : List (Nat × Nat)) (F : Nat → Int) : Prop :=
  ∃ bs cp : Nat → Nat, w.ownsRow base 88 2 v ps.length (lstP ps bs cp) ∧
    (∀ i, i < ps.length → w.ownsRow base 5 1 (.slice (some ⟨bs i, 0, none⟩) (pN ps i) (cp i)) (pN ps i) (lst (pN ps i) (pB F ps i))) ∧ ∀ i j, i < j → j < ps.length → bs i ≠ bs j
theorem PL.nil (w : World) (base : Nat) (F : Nat → Int) : PL w base (.slice none 0 0) [] F :=
  ⟨fun _ => 0, fun _ => 0, World.ownsRow_nil _ _ _ _, fun i hi => absurd hi (by simp), fun i j _ hj => absurd hj (by simp)⟩
theorem PL.keep {w w' : World} {base : Nat} {v : Value} {ps : List (Nat × Nat)} {F : Nat → Int} (h : PL w base v ps F) (hk : ∀ g, base ≤ g → g < w.heap.size → w'.heap[g]? = w.heap[g]?) : PL w' base v ps F := by
  obtain ⟨bs, cp, h1, h2, h3⟩ := h
  exact ⟨bs, cp, own_keep h1 (fun g hg => hk g (own_blk h1 hg).1 (own_lt h1 hg)), fun i hi => own_keep (h2 i hi) (fun g hg => hk g (own_blk (h2 i hi) hg).1 (own_lt (h2 i hi) hg)), h3⟩
theorem PL.below {w w' : World} {base m : Nat} {v : Value} {ps : List (Nat × Nat)} {F : Nat → Int} (h : PL w base v ps F) (hb : Below m w w') (hm : w.heap.size ≤ m) : PL w' base v ps F := h.keep fun g _ hg => hb.block g (by omega)
theorem PL.slice {w : World} {base : Nat} {v : Value} {ps : List (Nat × Nat)} {F : Nat → Int} (h : PL w base v ps F) : ∃ a c, v = .slice a ps.length c := by
  obtain ⟨bs, cp, ⟨_, h1⟩, _⟩ := h
  rcases h1 with ⟨rfl, h0⟩ | ⟨g, cap, cur, rfl, _⟩
  · exact ⟨none, 0, by rw [h0]⟩
  · exact ⟨_, _, rfl⟩
/-- As pieces. -/
theorem PL.pieces {w : World} {base : Nat} {v : Value} {ps : List (Nat × Nat)} {F : Nat → Int} (h : PL w base v ps F) :
    ∃ a c O Cp, v = .slice a ps.length c ∧ PieB w a ps.length (fun i => (pA ps i : Int)) O (pN ps) Cp (pB F ps) w.heap.size := by
  obtain ⟨bs, cp, h1, h2, h3⟩ := h
  have hl := h1.1
  rcases h1.2 with ⟨rfl, h0⟩ | ⟨g, cap, cur, rfl, hb, hh, hn, hcap, hsz, htake⟩
  · exact ⟨none, 0, fun _ => none, fun _ => 0, by rw [h0], fun i hi => by omega⟩
  · have hlt : g < w.heap.size := own_lt h1 rfl
    have key : ∀ j, j < ps.length * 2 → w.cell? ⟨g, j, none⟩ = some (pieV ps bs cp j) := fun j hj => by
      rw [cell_of_row w g j cur 88 (0, 0) hh]
      have h1 : (cur.toList.take (ps.length * 2))[j]? = (lstP ps bs cp)[j]? := by rw [htake]
      rw [List.getElem?_take_of_lt hj, lstP_get, if_pos hj] at h1
      rw [← Array.getElem?_toList]
      exact h1
    refine ⟨_, _, fun i => some ⟨bs i, 0, none⟩, cp, rfl, fun i hi => ⟨g, 0, rfl, hlt, ?_, ?_, fun j hj => ?_⟩⟩
    · rw [Nat.zero_add, key _ (by omega)]
      unfold pieV
      rw [if_pos (by omega), show i * 2 / 2 = i from by omega]
    · rw [Nat.zero_add, key _ (by omega)]
      unfold pieV
      rw [if_neg (by omega), show (i * 2 + 1) / 2 = i from by omega]
    · have hr := h2 i hi
      have hbl := own_lt hr (g := bs i) rfl
      rcases hr.2 with ⟨hx, _⟩ | ⟨g', cap', cur', hv, _, hh', _, _, _, ht'⟩
      · cases hx
      · cases hv
        refine ⟨bs i, 0, rfl, hbl, ?_⟩
        rw [Nat.zero_add, cell_of_row w (bs i) j cur' 5 (0, 0) hh']
        have h5 : (cur'.toList.take (pN ps i * 1))[j]? = (lst (pN ps i) (pB F ps i))[j]? := by rw [ht']
        rw [List.getElem?_take_of_lt (by omega), lst_get, if_pos hj] at h5
        rw [← Array.getElem?_toList]
        exact h5
end Go.Proofs.YtdhdknjefjolpaaDoor
end
section
/-
  cart: Pieces.
-/
namespace Go.Proofs.YtdhdknjefjolpaaDoor
set_option linter.unusedSimpArgs false
set_option linter.unusedVariables false
set_option maxRecDepth 10000
open Go.RowKit

def Shut (p : Prop) : Prop := p
theorem Shut.out {p : Prop} (h : Shut p) : p := h
theorem lst_row {w : World} {base g n : Nat} {F : Nat → Int} (h : w.heap[g]? = some (.cells (rowN n F) 5 (0, 0))) (hb : base ≤ g) (hn : n ≤ maxLen) : w.ownsRow base 5 1 (.slice (some ⟨g, 0, none⟩) n n) n (lst n F) := by
  refine ⟨by rw [lst_length, Nat.mul_one], Or.inr ⟨g, n, rowN n F, rfl, hb, h, Nat.le_refl _, hn, by unfold rowN; rw [arr_size, Nat.mul_one], ?_⟩⟩
  show (lst n F).take (n * 1) = lst n F
  rw [Nat.mul_one]
  exact List.take_of_length_le (by rw [lst_length]; exact Nat.le_refl _)
/-- One piece more. -/
theorem PL.snoc {w1 w4 w5 : World} {base gb c : Nat} {v v5 : Value} {ps : List (Nat × Nat)} {x : Nat × Nat} {F : Nat → Int} {bs cp : Nat → Nat} (h1 : w1.ownsRow base 88 2 v ps.length (lstP ps bs cp))
    (h2 : ∀ i, i < ps.length → w1.ownsRow base 5 1 (.slice (some ⟨bs i, 0, none⟩) (pN ps i) (cp i)) (pN ps i) (lst (pN ps i) (pB F ps i))) (h3 : ∀ i j, i < j → j < ps.length → bs i ≠ bs j)
    (hb : Below w1.heap.size w1 w4) (hrow : w4.ownsRow base 5 1 (.slice (some ⟨gb, 0, none⟩) (x.2 - x.1) c) (x.2 - x.1) (lst (x.2 - x.1) (fun j => F (x.1 + j)))) (hgb : w1.heap.size ≤ gb) (hgrow : w4.grownBy w5 v.ownBlock)
    (h5 : w5.ownsRow base 88 2 v5 (ps.length + 1) (lstP ps bs cp ++ [.int .i64 (x.1 : Int), .slice (some ⟨gb, 0, none⟩) (x.2 - x.1) c])) : PL w5 base v5 (ps ++ [x]) F := by
  have hl : (ps ++ [x]).length = ps.length + 1 := by simp
  have hv : w4.ownsRow base 88 2 v ps.length (lstP ps bs cp) := own_keep h1 (fun g hg => hb.block g (own_lt h1 hg))
  refine ⟨fun i => if i = ps.length then gb else bs i, fun i => if i = ps.length then c else cp i, by rw [lstP_snoc, hl]; exact h5, fun i hi => ?_, fun i j hij hj => ?_⟩
  · by_cases e : i = ps.length
    · subst e
      unfold pN pB pA
      rw [getD_new]
      dsimp only
      rw [if_pos rfl, if_pos rfl]
      refine own_keep hrow (fun g hg => hgrow.block g (own_lt hrow hg) (own_type hrow hv (by decide) hg))
    · have hi' : i < ps.length := by omega
      have h6 := h2 i hi'
      unfold pN pB pA at h6 ⊢
      rw [getD_old ps x hi']
      dsimp only
      rw [if_neg e, if_neg e]
      have h7 := own_keep h6 (fun g hg => hb.block g (own_lt h6 hg))
      exact own_keep h7 (fun g hg => hgrow.block g (own_lt h7 hg) (own_type h7 hv (by decide) hg))
  · dsimp only
    have hi : i ≠ ps.length := by omega
    rw [if_neg hi]
    by_cases e : j = ps.length
    · rw [if_pos e]
      have := own_lt (h2 i (by omega)) (g := bs i) rfl
      omega
    · rw [if_neg e]
      exact h3 i j hij (by omega)
set_option maxRecDepth 100000 in
set_option maxHeartbeats 4000000 in
theorem ctPieces_ok (n c : Nat) (o : Option Addr) (F : Nat → Int) (w : World) (hk : ChkOk n) (hnc : n ≤ c) (hcm : c ≤ maxLen) (hL : NumsAt w .u8 o n F) :
    Calls Tryd.prog 40 #[.slice o n c] w fun e w' => ∃ v, e = .returned (.tuple #[v, .int .i64 0]) ∧ PL w' w.heap.size v (runsP F n) F ∧ Below w.heap.size w w' := by
  obtain ⟨i0, hi, hz0, hz1, hz2⟩ := info_parts infoU8
  obtain ⟨i1, hi', hy0, hy1, hy2⟩ := info_parts infoPie
  have hsz1 : (Tryd.prog.info? 5).map (·.size) = some 1 := by rw [hi]; simp [hz1]
  have hn : n ≤ 1048576 := by obtain ⟨h1, h2, h3⟩ := hk; omega
  unfold maxLen at hcm
  go_enter Tryd.func40, Tryd.ntmps40
  (go_wp2_with fail; refine Cl.p (ctCheck_ok n c o _ hk) ?_)
  go_wp2_with fail
  go_loopw [5, 6] (fun v t wr => ∃ i : Nat, i ≤ n ∧ t = .int .i64 (i : Int) ∧ (i = 0 ∨ i = n ∨ F i = 0) ∧ PL wr w.heap.size v (runsP F i) F ∧ Below w.heap.size w wr) (fun _ t _ => n - (intOf t).toNat)
  case atStart => exact ⟨0, by omega, rfl, Or.inl rfl, PL.nil _ _ _, Below.refl _ _⟩
  case round =>
    obtain ⟨i, hin, rfl, hbd, hP, hbr⟩ := hrel
    obtain ⟨f, hJ⟩ : ∃ f, nzA F (n - i) i = f := ⟨_, rfl⟩
    obtain ⟨g, hG⟩ : ∃ g, ezA F (n - f) f = g := ⟨_, rfl⟩
    have hLr : NumsAt wr .u8 o n F := hL.below hbr (Nat.le_refl _)
    go_wp2_with fail
    refine (ctRun_calls n c i f g o F _ hn hin hLr hJ hG).mono ?_
    obtain ⟨j1, j2, j3, j4⟩ := nzA_spec (F := F) (n - i) i
    obtain ⟨e1, e2, e3, e4⟩ := ezA_spec (F := F) (n - f) f
    rw [hJ] at j1 j2 j3 j4
    rw [hG] at e1 e2 e3 e4
    have hif : runsP F f = runsP F i := by
      have := runs_zero (F := F) (i := i) (f - i) (fun j h1 h2 => j3 j h1 (by omega))
      rwa [show i + (f - i) = f from by omega] at this
    rintro e w1 ⟨rfl, ⟨hfn, rfl⟩ | ⟨hfn, rfl⟩⟩
    · subst hfn
      rw [← hif] at hP
      have HP := hide hP
      clear hP hbd j3 j4 e3 e4 hif hJ hG
      go_wp2_with fail
      go_ret2
      exact ⟨_, rfl, HP.out, hbr⟩
    · have hne : F f ≠ 0 := j4 (by omega)
      have hfg : f < g := by
        rcases Nat.eq_or_lt_of_le e1 with h | h
        · exact absurd (e4 (by omega)) (by rw [← h]; exact hne)
        · exact h
      have hb0 : f = 0 ∨ F (f - 1) = 0 := by
        rcases Nat.eq_or_lt_of_le j1 with h | h
        · rcases hbd with hbd | hbd | hbd
          · left; omega
          · omega
          · rw [h] at hbd; exact absurd hbd hne
        · exact Or.inr (j3 (f - 1) (by omega) (by omega))
      have hfg2 : runsP F g = runsP F f ++ [(f, g)] := by
        have := runs_run hb0 (g - f - 1) (fun j h1 h2 => e3 j h1 (by omega))
        rwa [show f + (g - f - 1) + 1 = g from by omega] at this
      have hbd2 : g = 0 ∨ g = n ∨ F g = 0 := by
        by_cases h : g = n
        · exact Or.inr (Or.inl h)
        · exact Or.inr (Or.inr (e4 (by omega)))
      have hgn : g ≤ n := by omega
      obtain ⟨l, hl⟩ : ∃ l, g - f = l := ⟨_, rfl⟩
      have hgf : (g : Int) - (f : Int) = (l : Int) := by omega
      have hmk := fun W => run_make_arr (P := Tryd.prog) 22 5 i0 (.int .u8 0) 1 Tryd.underlying22 hi hz0 hz1 hz2 rfl .i64 .i64 l (by omega) (by omega) W
      have hlen := runs_len (F := F) f
      rw [← hif] at hP
      have H1 := hide hfg2
      have H2 := hide hbd2
      have k1 : (f : Int) ≤ (g : Int) := by omega
      have k2 : (g : Int) ≤ (c : Int) := by omega
      have k3 : (0 : Int) ≤ (l : Int) := by omega
      clear hfg2 hbd2 hbd j3 j4 e3 e4 hif hJ hG hb0
      obtain ⟨b, off, ho, hbl, _⟩ := hLr f hfn
      subst ho
      have hb2 : Below w1.heap.size w1 (w1.alloc (.cells (arr l fun _ => .int .u8 0) 5)) := (Below.refl _ _).alloc (Nat.le_refl _) _
      have hg2 : (w1.alloc (.cells (arr l fun _ => .int .u8 0) 5)).heap[w1.heap.size]? = some (.cells (lst l fun _ => 0).toArray 5 (0, 0)) := Blk.new _ _ _
      have hS2 : NumsAt (w1.alloc (.cells (arr l fun _ => .int .u8 0) 5)) .u8 (some ⟨b, off + f, none⟩) l (fun j => F (f + j)) := fun j hj => by
        obtain ⟨b', off', ha, hlt', hc'⟩ := hLr.below hb2 (Nat.le_refl _) (f + j) (by omega)
        cases ha
        exact ⟨b, off + f, rfl, hlt', by rw [Nat.add_assoc]; exact hc'⟩
      have hsrc := fun h0 => lst_src hS2 h0
      have hn' : (lst l fun j => F (f + j)).length = Nat.min l l := by rw [lst_length]; exact (Nat.min_self l).symm
      have hfit : 0 + (lst l fun j => F (f + j)).length ≤ (lst l fun _ => (0 : Int)).length := by rw [lst_length, lst_length]; omega
      obtain ⟨bs, cp, hown, hby, hdi⟩ := hP
      clear hS2 hLr hk hL
      go_wp2_with (first | (at_builtin; refine Shut.out ?_) | (refine wpList_copy_splice rfl (.tmp 30) (.tmp 34) 22 22 rfl 5 Tryd.underlying22 hsz1 _ (some ⟨b, off + f, none⟩) l _ l _ (by rfl) (by rfl) w1.heap.size 0 (lst l fun _ => 0) 5 hg2 (lst l fun j => F (f + j)) hn' (fun h0 => ⟨rfl, hsrc h0⟩) hfit (lst_one _ _) w1.heap.size w1 hb2 (Nat.le_refl _) ?_; intro w3 hG3 hB3))
      unfold Shut
      have hG3 := hG3.out
      rw [splice_row (show 0 + l ≤ l by omega)] at hG3
      have hR3 : w3.heap[w1.heap.size]? = some (.cells (rowN l (fun j => F (f + j))) 5 (0, 0)) := by
        rw [hG3, rowN_congr (G := fun j => F (f + j)) (fun i hi => by unfold layF; rw [if_pos (by omega), Nat.sub_zero])]
      have hB4 : Below w1.heap.size w1 (w3.alloc (.cells #[.int .i64 (f : Int), .slice (some ⟨w1.heap.size, 0, none⟩) l l] 88)) := hB3.alloc hB3.size _
      have hown4 := own_keep hown (fun g' hg' => hB4.block g' (own_lt hown hg'))
      have hbase : w.heap.size ≤ w1.heap.size := hbr.size
      have hrow4 : (w3.alloc (.cells #[.int .i64 (f : Int), .slice (some ⟨w1.heap.size, 0, none⟩) l l] 88)).heap[w1.heap.size]? = some (.cells (rowN l (fun j => F (f + j))) 5 (0, 0)) := Blk.alloc (t := 5) hR3 _
      have hnew4 := heap_alloc_new w3 (.cells #[.int .i64 (f : Int), .slice (some ⟨w1.heap.size, 0, none⟩) l l] 88)
      generalize w3.alloc (.cells #[.int .i64 (f : Int), .slice (some ⟨w1.heap.size, 0, none⟩) l l] 88) = w4 at *
      have hs4 := hB4.size
      refine wpList_append_lies _ rfl (.tmp 36) (.tmp 40) 61 rfl w.heap.size 88 i1 _ 2 32 Tryd.underlying61 hi' hy0 hy1 hy2 rfl (by decide) _ (runsP F f).length (lstP (runsP F f) bs cp) rfl hown4 ⟨w3.heap.size, 0, none⟩ 1 1
        [.int .i64 (f : Int), .slice (some ⟨w1.heap.size, 0, none⟩) l l] rfl rfl (World.news_of_block (cs := #[.int .i64 (f : Int), .slice (some ⟨w1.heap.size, 0, none⟩) l l]) (t := 88) (fr := (0, 0)) hnew4) (by simp [Value.oneCell']) (by omega) (by unfold maxLen; omega) (by omega) (by omega) _ rfl ?_
      intro gg cap w5 hown5 hgrow5 hat5 hlt5
      have hr4 := lst_row (F := fun j => F (f + j)) hrow4 hbase (by unfold maxLen; omega)
      have hP5 : PL w5 w.heap.size (.slice (some ⟨gg, 0, none⟩) ((runsP F f).length + 1) cap) (runsP F f ++ [(f, g)]) F :=
        PL.snoc (gb := w1.heap.size) (c := l) (x := (f, g)) (w1 := w1) (w4 := w4) hown hby hdi hB4 (by show w4.ownsRow _ _ _ (.slice _ (g - f) l) (g - f) (lst (g - f) _); rw [hl]; exact hr4) (Nat.le_refl _) hgrow5 (by show w5.ownsRow _ _ _ _ _ (_ ++ [_, .slice _ (g - f) l]); rw [hl]; exact hown5)
      rw [← H1.out] at hP5
      have hb5 : Below w.heap.size w w5 := (hbr.trans (hB4.mono hbase)).grown hgrow5 (by omega) (fun k hk => (own_blk hown4 hk).1)
      clear hown5 hgrow5 hown4 hown hby hdi
      go_wp2_with fail
      go_roundw
      case rel => exact ⟨g, by omega, rfl, H2.out, hP5, hb5⟩
      case measure => simp [intOf]; omega
end Go.Proofs.YtdhdknjefjolpaaDoor
end
section
/-
  gannetref04: Pieces.
-/
namespace Go.Proofs.YtdhdknjefjolpaaDoor
set_option linter.unusedSimpArgs false
set_option linter.unusedVariables false
set_option maxRecDepth 10000
open Go.RowKit

theorem lst_succ (n : Nat) (L : Nat → Int) : lst (n + 1) L = lst n L ++ [.int .u8 (L n)] := by
  unfold lst
  rw [List.range_succ, List.map_append]
  rfl
theorem lstP_ext (ps : List (Nat × Nat)) (f e e' : Nat) (bs cp : Nat → Nat) (b c : Nat) :
    (lstP (ps ++ [(f, e)]) bs cp).set (ps.length * 2 + 1) (.slice (some ⟨b, 0, none⟩) (e' - f) c) = lstP (ps ++ [(f, e')]) (fun i => if i = ps.length then b else bs i) (fun i => if i = ps.length then c else cp i) := by
  apply List.ext_getElem?
  intro j
  rw [List.getElem?_set, lstP_get, lstP_get, lstP_length, List.length_append, List.length_append, List.length_singleton, List.length_singleton]
  unfold pieV pA pN
  by_cases h1 : ps.length * 2 + 1 = j
  · rw [if_pos h1, if_pos (by omega), if_pos (by omega), if_neg (by omega), show j / 2 = ps.length from by omega, getD_new]
    dsimp only
    rw [if_pos rfl, if_pos rfl]
  · rw [if_neg h1]
    by_cases hj : j < (ps.length + 1) * 2
    · rw [if_pos hj, if_pos hj]
      by_cases h2 : j < ps.length * 2
      · have hne : j / 2 ≠ ps.length := by omega
        rw [getD_old ps _ (by omega), getD_old ps _ (by omega)]
        dsimp only
        rw [if_neg hne, if_neg hne]
      · rw [if_pos (show j % 2 = 0 by omega), if_pos (show j % 2 = 0 by omega), show j / 2 = ps.length from by omega, getD_new, getD_new]
    · rw [if_neg hj, if_neg hj]
theorem own_cell {w : World} {base n size g cap j : Nat} {e : TypeId} {xs : List Value} {u : Value} (h : w.ownsRow base e size (.slice (some ⟨g, 0, none⟩) n cap) n xs) (hj : xs[j]? = some u) : w.cell? ⟨g, j, none⟩ = some u ∧ w.frozen? ⟨g, j, none⟩ = false := by
  rcases h.2 with ⟨hx, _⟩ | ⟨g', cap', cur', hv, _, hh', _, _, _, ht'⟩
  · cases hx
  · cases hv
    refine ⟨?_, by simp [World.frozen?, hh']⟩
    rw [cell_of_row w g j cur' e (0, 0) hh', ← Array.getElem?_toList]
    rw [← ht'] at hj
    have hlt : j < n * size := by
      rcases Nat.lt_or_ge j (n * size) with hlt | hge
      · exact hlt
      · rw [List.getElem?_eq_none (Nat.le_trans (List.length_take_le _ _) hge)] at hj; cases hj
    rwa [List.getElem?_take_of_lt hlt] at hj
/-- The last piece goes on by one byte. -/
theorem PL.ext {w w2 w1 : World} {base ob gg cap c0 : Nat} {ps : List (Nat × Nat)} {f e : Nat} {F : Nat → Int} {bs cp : Nat → Nat}
    (h1 : w.ownsRow base 88 2 (.slice (some ⟨ob, 0, none⟩) (ps.length + 1) c0) (ps.length + 1) (lstP (ps ++ [(f, e)]) bs cp))
    (h2 : ∀ i, i < (ps ++ [(f, e)]).length → w.ownsRow base 5 1 (.slice (some ⟨bs i, 0, none⟩) (pN (ps ++ [(f, e)]) i) (cp i)) (pN (ps ++ [(f, e)]) i) (lst (pN (ps ++ [(f, e)]) i) (pB F (ps ++ [(f, e)]) i)))
    (h3 : ∀ i j, i < j → j < (ps ++ [(f, e)]).length → bs i ≠ bs j) (hfe : f < e) (hb : Below w.heap.size w w2)
    (hown : w1.ownsRow base 5 1 (.slice (some ⟨gg, 0, none⟩) (e - f + 1) cap) (e - f + 1) (lst (e - f) (fun j => F (f + j)) ++ [.int .u8 (F e)]))
    (hgrow : w2.grownBy w1 (some (bs ps.length))) (hat : bs ps.length = gg ∨ w.heap.size ≤ gg) :
    PL (w1.setCell ⟨ob, ps.length * 2 + 1, none⟩ (.slice (some ⟨gg, 0, none⟩) (e - f + 1) cap)) base (.slice (some ⟨ob, 0, none⟩) (ps.length + 1) c0) (ps ++ [(f, e + 1)]) F := by
  have hl : (ps ++ [(f, e + 1)]).length = ps.length + 1 := by simp
  have hl2 : (ps ++ [(f, e)]).length = ps.length + 1 := by simp
  have hlast := h2 ps.length (by omega)
  have hobk : some ob ≠ some (bs ps.length) := own_type h1 hlast (by decide) rfl
  have h1' : w1.ownsRow base 88 2 (.slice (some ⟨ob, 0, none⟩) (ps.length + 1) c0) (ps.length + 1) (lstP (ps ++ [(f, e)]) bs cp) :=
    own_keep h1 (fun g hg => by
      have hlt := own_lt h1 hg
      cases hg
      exact (hgrow.block ob (Nat.lt_of_lt_of_le hlt hb.size) hobk).trans (hb.block ob hlt))
  have hgo : some gg ≠ some ob := own_type hown h1' (by decide) rfl
  have hgo' : gg ≠ ob := fun e => hgo (by rw [e])
  have hee : e + 1 - f = e - f + 1 := by omega
  refine ⟨fun i => if i = ps.length then gg else bs i, fun i => if i = ps.length then cap else cp i, ?_, fun i hi => ?_, fun i j hij hj => ?_⟩
  · rw [hl, ← lstP_ext ps f e (e + 1) bs cp gg cap, hee]
    exact own_set h1' (by omega) _
  · by_cases ei : i = ps.length
    · subst ei
      unfold pN pB pA
      rw [getD_new]
      dsimp only
      rw [if_pos rfl, if_pos rfl, hee, lst_succ, show f + (e - f) = e from by omega]
      exact own_keep hown (fun g hg => by cases hg; exact Below.heap_setCell _ ⟨ob, _, none⟩ _ _ hgo')
    · have hi' : i < ps.length := by omega
      have h6 := h2 i (by omega)
      have hlt := own_lt h6 (g := bs i) rfl
      have hbo : some (bs i) ≠ some ob := own_type h6 h1 (by decide) rfl
      unfold pN pB pA at h6 ⊢
      rw [getD_old ps _ hi'] at h6 ⊢
      dsimp only
      rw [if_neg ei, if_neg ei]
      refine own_keep h6 (fun g hg => ?_)
      cases hg
      refine ((Below.heap_setCell _ ⟨ob, _, none⟩ _ _ (fun e => hbo (by rw [e]))).trans (hgrow.block _ (Nat.lt_of_lt_of_le hlt hb.size) (fun e => ?_))).trans (hb.block _ hlt)
      injection e with e
      exact h3 i ps.length hi' (by omega) e
  · dsimp only
    have hi : i ≠ ps.length := by omega
    rw [if_neg hi]
    by_cases ej : j = ps.length
    · rw [if_pos ej]
      have hlt := own_lt (h2 i (by omega)) (g := bs i) rfl
      rcases hat with hat | hat
      · rw [← hat]; exact h3 i ps.length (by omega) (by omega)
      · omega
    · rw [if_neg ej]
      exact h3 i j hij (by omega)
set_option maxRecDepth 100000 in
set_option maxHeartbeats 4000000 in
theorem rcPieces_calls (n c : Nat) (o : Option Addr) (F : Nat → Int) (w : World) (hn : n ≤ 1048576) (hL : NumsAt w .u8 o n F) :
    Calls Tryd.prog 49 #[.slice o n c] w fun e w' => ∃ v, e = .returned v ∧ PL w' w.heap.size v (runsP F n) F ∧ Below w.heap.size w w' := by
  obtain ⟨i0, hi, hz0, hz1, hz2⟩ := info_parts infoU8
  obtain ⟨i1, hi', hy0, hy1, hy2⟩ := info_parts infoPie
  go_enter Tryd.func49, Tryd.ntmps49
  go_wp2_with fail
  go_loopw [3, 4] (fun v t wr => ∃ (i : Nat) (V : Value), i ≤ n ∧ V = v ∧ t = .int .i64 (i : Int) ∧ PL wr w.heap.size V (runsP F i) F ∧ Below w.heap.size w wr) (fun _ t _ => n - (intOf t).toNat)
  case atStart => exact ⟨0, _, by omega, rfl, rfl, PL.nil _ _ _, Below.refl _ _⟩
  case round =>
    obtain ⟨i, VV, hin, rfl, rfl, hP, hbr⟩ := hrel

    have hLr : NumsAt wr .u8 o n F := hL.below hbr (Nat.le_refl _)
    by_cases hlt : i < n
    · have hlt' : (i : Int) < (n : Int) := by omega
      obtain ⟨b, off, ho, hbl, hc⟩ := hLr i hlt
      subst ho
      by_cases hz : F i = 0
      · have hr : runsP F (i + 1) = runsP F i := if_pos hz
        rw [← hr] at hP
        have HP := hide hP
        rw [hz] at hc
        clear hP hr hz hLr hL
        go_wp2_with fail
        go_roundw
        case rel => exact ⟨i + 1, _, by omega, rfl, by go_num, HP.out, hbr⟩
        case measure => simp [intOf]; omega
      · have hne : (F i == 0) = false := beq_eq_false_iff_ne.2 hz
        have hbase : w.heap.size ≤ wr.heap.size := hbr.size
        have hlen := runs_len (F := F) i
        by_cases h2 : 0 < i ∧ F (i - 1) ≠ 0
        · -- the last piece goes on
          have hr : runsP F (i + 1) = extL (runsP F i) (i + 1) := (if_neg hz).trans (if_pos h2)
          obtain ⟨ps, f, e, hf⟩ := runs_last i h2.1 h2.2
          rw [e, extL_snoc] at hr
          have HR := hide hr
          rw [e] at hP hlen
          obtain ⟨bs, cp, hown, hby, hdi⟩ := hP
          have hl2 : (ps ++ [(f, i)]).length = ps.length + 1 := by simp
          rw [hl2] at hown
          obtain ⟨ob, c0, rfl, hob, hobl⟩ := hown.form (by omega)
          have hlast := hby ps.length (by omega)
          unfold pN pB pA at hlast
          rw [getD_new] at hlast
          dsimp only at hlast
          have hob2 : some ob ≠ some (bs ps.length) := own_type hown hlast (by decide) rfl
          obtain ⟨x1, x2⟩ := own_cell (j := ps.length * 2 + 1) (u := .slice (some ⟨bs ps.length, 0, none⟩) (i - f) (cp ps.length)) hown (by
            rw [lstP_get, hl2, if_pos (by omega)]
            unfold pieV pN
            rw [if_neg (by omega), show (ps.length * 2 + 1) / 2 = ps.length from by omega, getD_new])
          have hbw2 : Below wr.heap.size wr (wr.drew.alloc (.cells #[.int .u8 (F i)] 5)) := (Below.drew (Below.refl _ _)).alloc (Nat.le_refl _) _
          have hlast2 := own_keep hlast (fun g' hg' => hbw2.block g' (own_lt hlast hg'))
          have y1 : (wr.drew.alloc (.cells #[.int .u8 (F i)] 5)).cell? ⟨ob, ps.length * 2 + 1, none⟩ = some (.slice (some ⟨bs ps.length, 0, none⟩) (i - f) (cp ps.length)) := (hbw2.cell (p := ⟨ob, ps.length * 2 + 1, none⟩) hobl).trans x1
          have y2 : (wr.drew.alloc (.cells #[.int .u8 (F i)] 5)).frozen? ⟨ob, ps.length * 2 + 1, none⟩ = false := (hbw2.frozen (p := ⟨ob, ps.length * 2 + 1, none⟩) hobl).trans x2
          have hblk := heap_alloc_new wr.drew (.cells #[.int .u8 (F i)] 5)
          have hs2 := hbw2.size
          obtain ⟨k, hk⟩ : ∃ k, ps.length = k := ⟨_, rfl⟩
          rw [hk] at hown hlast hob2 x1 x2 hlast2 y1 y2 hl2
          have z1 : wr.drew.cell? ⟨ob, k * 2 + 1, none⟩ = some (.slice (some ⟨bs k, 0, none⟩) (i - f) (cp k)) := x1
          have z2 : wr.drew.cell? ⟨b, off + i, none⟩ = some (.int .u8 (F i)) := hc
          obtain ⟨b', off', ho', _, hc'⟩ := hLr (i - 1) (by omega)
          cases ho'
          have hne2 : (F (i - 1) != 0) = true := by rw [bne_iff_ne]; exact h2.2
          have hi0 : (0 : Int) < (i : Int) := by omega
          have hi1 : (i : Int) - 1 = ((i - 1 : Nat) : Int) := by omega
          have hi2 : ((i - 1 : Nat) : Int) < (n : Int) := by omega
          have hk1 : ((k + 1 : Nat) : Int) - 1 = (k : Int) := by omega
          have hk2 : (k : Int) < (k : Int) + 1 := by omega
          obtain ⟨i', hi'e⟩ : ∃ i', i - 1 = i' := ⟨_, rfl⟩
          rw [hi'e] at hc' hne2 hi1 hi2
          have hkn : k ≤ 1048576 := by omega
          have hbase2 : w.heap.size ≤ (wr.drew.alloc (.cells #[.int .u8 (F i)] 5)).heap.size := Nat.le_trans hbase hs2
          have y1' : ((wr.alloc (.cells #[.int .u8 (F i)] 5)).drew).cell? ⟨ob, k * 2 + 1, none⟩ = some (.slice (some ⟨bs k, 0, none⟩) (i - f) (cp k)) := y1
          clear hlast hr hz hLr hL e x1 x2 h2
          go_wp2_with fail
          go_region_law (first
            | (refine step_append_lies _ (by rfl) (.tmp 36) (.tmp 41) 22 (by rfl) w.heap.size 5 i0 _ 1 1 Tryd.underlying22 hi hz0 hz1 hz2 rfl (by decide) _ (i - f) (lst (i - f) fun j => F (f + j)) (by rfl) hlast2
                ⟨wr.heap.size, 0, none⟩ 1 1 [.int .u8 (F i)] (by rfl) (by rfl) (World.news_of_block (cs := #[.int .u8 (F i)]) (t := 5) (fr := (0, 0)) hblk) (by simp [Value.oneCell'])
                (by omega) (by unfold maxLen; omega) (by omega) hbase2 _ rfl ?_; intro gg cap w1 hown1 hgrow1 hat hlt1; have q1 := grown_cell hgrow1 y1 hob2; have q2 := grown_frozen hgrow1 (p := ⟨ob, k * 2 + 1, none⟩) (Nat.lt_of_lt_of_le hobl hs2) y2 hob2))
          all_goals
            have hP6 : PL (w1.setCell ⟨ob, k * 2 + 1, none⟩ (.slice (some ⟨gg, 0, none⟩) (i - f + 1) cap)) w.heap.size (.slice (some ⟨ob, 0, none⟩) (k + 1) c0) (ps ++ [(f, i + 1)]) F := by
              subst hk
              refine PL.ext (w2 := wr.drew.alloc (.cells #[.int .u8 (F i)] 5)) hown hby hdi hf hbw2 hown1 hgrow1 ?_
              rcases hat with hat | hat
              · left; injection hat
              · right; rw [hat]; exact hs2
            have hb6 : Below w.heap.size w (w1.setCell ⟨ob, k * 2 + 1, none⟩ (.slice (some ⟨gg, 0, none⟩) (i - f + 1) cap)) :=
              ((hbr.trans (hbw2.mono hbase)).grown hgrow1 hbase2 (fun k' hk' => (own_blk hlast2 hk').1)).setCell (p := ⟨ob, k * 2 + 1, none⟩) hob _
            rw [← HR.out] at hP6
            clear hown1 hgrow1 q1 q2 y1 y2 y1' z1 z2 hblk hlast2
            go_wp2_with fail
            go_roundw
            case rel => exact ⟨i + 1, _, by omega, rfl, by go_num, hP6, hb6⟩
            case measure => simp [intOf]; omega
        · have hr : runsP F (i + 1) = runsP F i ++ [(i, i + 1)] := (if_neg hz).trans (if_neg h2)
          have HR := hide hr
          obtain ⟨bs, cp, hown, hby, hdi⟩ := hP
          have hcond : i = 0 ∨ F (i - 1) = 0 := by
            by_cases h0 : i = 0
            · exact Or.inl h0
            · by_cases h1 : F (i - 1) = 0
              · exact Or.inr h1
              · exact absurd ⟨by omega, h1⟩ h2
          have hB4 : Below wr.heap.size wr ((wr.alloc (.cells #[.int .u8 (F i)] 5)).alloc (.cells #[.int .i64 (i : Int), .slice (some ⟨wr.heap.size, 0, none⟩) 1 1] 88)) := ((Below.refl _ _).alloc (Nat.le_refl _) _).alloc (by simp) _
          have hown4 := own_keep hown (fun g' hg' => hB4.block g' (own_lt hown hg'))
          have hrow4 : ((wr.alloc (.cells #[.int .u8 (F i)] 5)).alloc (.cells #[.int .i64 (i : Int), .slice (some ⟨wr.heap.size, 0, none⟩) 1 1] 88)).heap[wr.heap.size]? = some (.cells (rowN 1 (fun j => F (i + j))) 5 (0, 0)) :=
            Blk.alloc (t := 5) (cs := #[.int .u8 (F i)]) (Blk.new _ _ _) _
          have hnew4 := heap_alloc_new (wr.alloc (.cells #[.int .u8 (F i)] 5)) (.cells #[.int .i64 (i : Int), .slice (some ⟨wr.heap.size, 0, none⟩) 1 1] 88)
          have hs4 := hB4.size
          rw [show (wr.alloc (.cells #[.int .u8 (F i)] 5)).heap.size = wr.heap.size + 1 from by simp] at hnew4
          have fin : ∀ gg cap w5, w5.ownsRow w.heap.size 88 2 (.slice (some ⟨gg, 0, none⟩) ((runsP F i).length + 1) cap) ((runsP F i).length + 1) (lstP (runsP F i) bs cp ++ [.int .i64 (i : Int), .slice (some ⟨wr.heap.size, 0, none⟩) 1 1]) →
              World.grownBy ((wr.alloc (.cells #[.int .u8 (F i)] 5)).alloc (.cells #[.int .i64 (i : Int), .slice (some ⟨wr.heap.size, 0, none⟩) 1 1] 88)) w5 (Value.ownBlock VV) →
              PL w5 w.heap.size (.slice (some ⟨gg, 0, none⟩) ((runsP F i).length + 1) cap) (runsP F (i + 1)) F ∧ Below w.heap.size w w5 := fun gg cap w5 hown5 hgrow5 => by
            have hr4 := lst_row (F := fun j => F (i + j)) hrow4 hbase (by decide)
            have e1 : i + 1 - i = 1 := by omega
            refine ⟨?_, (hbr.trans (hB4.mono hbase)).grown hgrow5 (Nat.le_trans hbase hs4) (fun k hk => (own_blk hown4 hk).1)⟩
            rw [HR.out]
            exact PL.snoc (gb := wr.heap.size) (c := 1) (x := (i, i + 1)) (w1 := wr) hown hby hdi hB4 (by show World.ownsRow _ _ _ _ (.slice _ (i + 1 - i) 1) (i + 1 - i) (lst (i + 1 - i) _); rw [e1]; exact hr4) (Nat.le_refl _) hgrow5 (by show w5.ownsRow _ _ _ _ _ (_ ++ [_, .slice _ (i + 1 - i) 1]); rw [e1]; exact hown5)
          have FIN := hide fin
          clear fin hr h2 hz hL hown hby hdi hrow4
          by_cases h0 : i = 0
          · have hi0 : (decide ((0 : Int) < (i : Int))) = false := by rw [decide_eq_false_iff_not]; omega
            have hi0' : (decide (0 < i)) = false := by rw [decide_eq_false_iff_not]; omega
            clear hcond hLr h0
            go_wp2_with (at_builtin; refine Shut.out ?_)
            unfold Shut
            generalize (wr.alloc (.cells #[.int .u8 (F i)] 5)).alloc (.cells #[.int .i64 (i : Int), .slice (some ⟨wr.heap.size, 0, none⟩) 1 1] 88) = w4 at *
            refine wpList_append_lies _ rfl (.tmp 45) (.tmp 53) 61 rfl w.heap.size 88 i1 _ 2 32 Tryd.underlying61 hi' hy0 hy1 hy2 rfl (by decide) _ (runsP F i).length (lstP (runsP F i) bs cp) rfl hown4 ⟨wr.heap.size + 1, 0, none⟩ 1 1
              [.int .i64 (i : Int), .slice (some ⟨wr.heap.size, 0, none⟩) 1 1] rfl rfl (World.news_of_block (cs := #[.int .i64 (i : Int), .slice (some ⟨wr.heap.size, 0, none⟩) 1 1]) (t := 88) (fr := (0, 0)) hnew4) (by simp [Value.oneCell']) (by omega) (by unfold maxLen; omega) (by omega) (by omega) _ rfl ?_
            intro gg cap w5 hown5 hgrow5 hat5 hlt5
            obtain ⟨hP5, hb5⟩ := FIN.out gg cap w5 hown5 hgrow5
            clear hown5 hgrow5 hown4
            go_wp2_with fail
            go_roundw
            case rel => exact ⟨i + 1, _, by omega, rfl, by go_num, hP5, hb5⟩
            case measure => simp [intOf]; omega
          · have hcond := hcond.resolve_left h0
            obtain ⟨b', off', ho', _, hc'⟩ := hLr (i - 1) (by omega)
            cases ho'
            rw [hcond] at hc'
            have hi0 : (0 : Int) < (i : Int) := by omega
            have hi1 : (i : Int) - 1 = ((i - 1 : Nat) : Int) := by omega
            have hi2 : ((i - 1 : Nat) : Int) < (n : Int) := by omega
            obtain ⟨i', hi'e⟩ : ∃ i', i - 1 = i' := ⟨_, rfl⟩
            rw [hi'e] at hc' hi1 hi2
            clear hcond hLr
            go_wp2_with (at_builtin; refine Shut.out ?_)
            unfold Shut
            generalize (wr.alloc (.cells #[.int .u8 (F i)] 5)).alloc (.cells #[.int .i64 (i : Int), .slice (some ⟨wr.heap.size, 0, none⟩) 1 1] 88) = w4 at *
            refine wpList_append_lies _ rfl (.tmp 45) (.tmp 53) 61 rfl w.heap.size 88 i1 _ 2 32 Tryd.underlying61 hi' hy0 hy1 hy2 rfl (by decide) _ (runsP F i).length (lstP (runsP F i) bs cp) rfl hown4 ⟨wr.heap.size + 1, 0, none⟩ 1 1
              [.int .i64 (i : Int), .slice (some ⟨wr.heap.size, 0, none⟩) 1 1] rfl rfl (World.news_of_block (cs := #[.int .i64 (i : Int), .slice (some ⟨wr.heap.size, 0, none⟩) 1 1]) (t := 88) (fr := (0, 0)) hnew4) (by simp [Value.oneCell']) (by omega) (by unfold maxLen; omega) (by omega) (by omega) _ rfl ?_
            intro gg cap w5 hown5 hgrow5 hat5 hlt5
            obtain ⟨hP5, hb5⟩ := FIN.out gg cap w5 hown5 hgrow5
            clear hown5 hgrow5 hown4
            go_wp2_with fail
            go_roundw
            case rel => exact ⟨i + 1, _, by omega, rfl, by go_num, hP5, hb5⟩
            case measure => simp [intOf]; omega
    · obtain rfl : i = n := by omega
      have HP := hide hP
      clear hP hL hLr
      go_wp2_with fail
      go_ret
      exact ⟨_, rfl, HP.out, hbr⟩
end Go.Proofs.YtdhdknjefjolpaaDoor
end
