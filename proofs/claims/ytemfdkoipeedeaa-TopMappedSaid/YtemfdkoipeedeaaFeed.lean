/-
  Package feed, but Check; gannetref06.
-/
import Derived.Test.YtemfdkoipeedeaaOnly
import Derived.Test.YtemfdkoipeedeaaMake
import Derived.Lib.LazyBuf
namespace Go.Proofs.Ytemfdkoipeedeaa
set_option linter.unusedSimpArgs false
set_option linter.unusedVariables false
set_option maxRecDepth 10000
open Go.RowKit

theorem infoU8f : (Try.prog.info? 5).map (fun i => (i.zero, i.size, i.bytes)) = some (some (.int .u8 0), 1, 1) := by kernel_rfl
/-- The numbers of a slice, as a list. -/
def lst8 (L : Nat → Int) (n : Nat) : List Int := (List.range n).map L
theorem lst8_get (L : Nat → Int) (n i : Nat) (h : i < n) : (lst8 L n).getD i 0 = L i := by unfold lst8; simp [List.getD, h]

theorem slClone_calls (o : Option Addr) (n c : Nat) (L : Nat → Int) (w : World) (hn : n ≤ 140737488355328) (hL : NumsAt w .u8 o n L) :
    Calls Try.prog 24 #[.slice o n c] w fun e w' => ∃ o' c', e = .returned (.slice o' n c') ∧ NumsAt w' .u8 o' n L ∧ Below w.heap.size w w' := by
  obtain ⟨i0, hi, hz0, hz1, hz2⟩ := info_parts infoU8f
  have hnil := fun W a l c => run_eql_slice_nil W 33 5 a l c Try.underlying33
  have hnil2 := fun W a l c => run_equalIn_slice_nil W 9999 33 5 a l c Try.underlying33
  cases o with
  | none =>
    have hn0 : n = 0 := by
      rcases Nat.eq_zero_or_pos n with h | h
      · exact h
      · obtain ⟨_, _, h, _⟩ := hL 0 h; cases h
    subst hn0
    go_enter Try.func24, Try.ntmps24
    go_wp2_with fail
    go_ret
    exact ⟨_, _, rfl, fun i hi => by omega, by (repeat (first | exact Below.refl _ _ | assumption | refine Below.drew ?_ | refine Bl.alloc ?_ _ | refine below_drewN ?_ _ | refine Bl.chain ?_ (by assumption) (Nat.le_refl _)))⟩
  | some a =>
    have hown := World.ownsRow_lit w (base := w.heap.size) (e := 5) (size := 1) #[] 0 (Nat.le_refl _) (by decide) rfl
    go_enter Try.func24, Try.ntmps24
    go_wp2_with (at_builtin; refine wpList_append_own _ rfl _ _ 33 rfl w.heap.size 5 i0 (.int .u8 0) 1 1 Try.underlying33 hi hz0 hz1 hz2 rfl (by decide) _ _ _ rfl hown _ n c ((lst8 L n).map (Value.int .u8)) rfl ?c0 ?c1 ?c2 ?c3 ?c4 ?c5 ?_)
    case c0 => simp [lst8]
    case c1 =>
      intro j u hu
      have hj : j < n := by
        have := (List.getElem?_eq_some_iff.1 hu).1
        simpa [lst8] using this
      obtain ⟨b, off, ha, hlt, hc⟩ := hL j hj
      injection ha with ha
      subst ha
      have e : u = L j := by simpa [lst8, hj, eq_comm] using hu
      rw [add_plain, e]
      exact (World.cell?_alloc_lt w _ ⟨b, off + j, none⟩ hlt).trans hc
    case c2 =>
      intro u hu
      rfl
    case c3 => unfold maxLen; omega
    intro v1 w1 hown1 hgrow1 _
    obtain ⟨o', c', rfl, hn1⟩ := nums_of_own hown1
    go_wp2_with fail
    go_ret
    refine ⟨_, _, rfl, fun i hi => ?_, ?_⟩
    · have := hn1 i hi
      dsimp only at this ⊢
      rwa [lst8_get L n i hi] at this
    · exact (Bl.alloc (Below.refl _ _) _).grown hgrow1 (by simp) (fun k hk => (hown.lt k hk).1)

/-- A feed, as it lies. -/
def FB (w : World) (g : Nat) (o : Option Addr) (n c T : Nat) : Prop := Blk w g 110 #[.slice o n c, .int .i64 (T : Int)]
def nxV (L : Nat → Int) (n T : Nat) : Int := if T < n then L T else 255
def pkV (L : Nat → Int) (n T : Nat) (k : Int) : Int := if k < 0 ∨ ((n - T : Nat) : Int) ≤ k then 255 else L (T + k.toNat)

theorem fdNew_calls (o : Option Addr) (n c : Nat) (L : Nat → Int) (w : World) (hn : n ≤ 140737488355328) (hL : NumsAt w .u8 o n L) :
    Calls Try.prog 22 #[.slice o n c] w fun e w' => ∃ g o' c', e = .returned (.pointer (some ⟨g, 0, none⟩)) ∧ FB w' g o' n c' 0 ∧ NumsB w' .u8 o' n L g ∧ w.heap.size ≤ g ∧ Below w.heap.size w w' := by
  go_enter Try.func22, Try.ntmps22
  go_wp2_with fail
  refine (slClone_calls o n c L _ hn hL).mono ?_
  rintro e w1 ⟨o', c', rfl, hn1, hb1⟩
  go_wp2_with fail
  go_ret
  refine ⟨w1.heap.size, o', c', rfl, Blk.new _ _ _, ?_, hb1.size, by (repeat (first | exact Below.refl _ _ | assumption | refine Below.drew ?_ | refine Bl.alloc ?_ _ | refine below_drewN ?_ _ | refine Bl.chain ?_ (by assumption) (Nat.le_refl _)))⟩
  exact (hn1.toB (Nat.le_refl _)).only ((Only.refl (fun _ => False) w1).alloc _) (fun _ _ h => h)

theorem fdGiver_calls (o : Option Addr) (n c : Nat) (T : Int) (w : World) :
    Calls Try.prog 76 #[.slice o n c, .int .i64 T] w
      fun e w' => e = .returned (.func (.func 82) #[] #[.pointer (some ⟨w.heap.size + 1, 0, none⟩), .pointer (some ⟨w.heap.size, 0, none⟩)]) ∧ (w.alloc (.cells #[.slice o n c] 33)).alloc (.cells #[.int .i64 T] 3) = w' := by
  go_enter Try.func76, Try.ntmps76
  go_wp2
  go_ret
  exact ⟨rfl, rfl⟩
theorem fdGiver1_calls (f l : Nat) (o : Option Addr) (n c T : Nat) (L : Nat → Int) (w : World) (hlf : l < f) (hT : T < 4611686018427387904) (hn : n ≤ 140737488355328)
    (hcT : w.cell? ⟨f, 0, none⟩ = some (.int .i64 (T : Int))) (hfT : w.frozen? ⟨f, 0, none⟩ = false) (hcl : w.cell? ⟨l, 0, none⟩ = some (.slice o n c)) (hL : NumsB w .u8 o n L f) :
    Calls Try.prog 82 #[.pointer (some ⟨f, 0, none⟩), .pointer (some ⟨l, 0, none⟩)] w fun e w' => e = .returned (.int .u8 (nxV L n T)) ∧ Below f w w' := by
  by_cases h : T < n
  · have h' : (decide ((n : Int) ≤ (T : Int))) = false := by rw [decide_eq_false_iff_not]; omega
    obtain ⟨b, off, rfl, hbf, hcb⟩ := hL T h
    have hB := (Below.refl f w).setCell (p := ⟨f, 0, none⟩) (Nat.le_refl _) (.int .i64 ((T : Int) + 1))
    have hcb2 := (hB.cell (p := ⟨b, off + T, none⟩) hbf).trans hcb
    have hcl2 := (hB.cell (p := ⟨l, 0, none⟩) hlf).trans hcl
    have e : nxV L n T = L T := if_pos h
    have E := hide e
    clear e
    go_enter Try.func82, Try.ntmps82
    go_wp2_with fail
    go_ret
    exact ⟨ret_int E.out.symm, hB⟩
  · have h' : (n : Int) ≤ (T : Int) := by omega
    have e : nxV L n T = 255 := if_neg h
    have E := hide e
    clear e
    go_enter Try.func82, Try.ntmps82
    go_wp2_with fail
    go_ret
    exact ⟨ret_int E.out.symm, Below.refl _ _⟩
/-- Both boxes, and what the closure reads behind them. -/
theorem fdBoxes (w : World) (o : Option Addr) (n c T : Nat) (L : Nat → Int) (hL : NumsAt w .u8 o n L) (hT : T < 4611686018427387904) (hn : n ≤ 140737488355328) :
    Calls Try.prog 82 #[.pointer (some ⟨w.heap.size + 1, 0, none⟩), .pointer (some ⟨w.heap.size, 0, none⟩)] ((w.alloc (.cells #[.slice o n c] 33)).alloc (.cells #[.int .i64 (T : Int)] 3))
      fun e w' => e = .returned (.int .u8 (nxV L n T)) ∧ Below w.heap.size w w' := by
  have h2 : Only (fun _ => False) w ((w.alloc (.cells #[.slice o n c] 33)).alloc (.cells #[.int .i64 (T : Int)] 3)) := ((Only.refl _ w).alloc _).alloc _
  have hb : Below w.heap.size w ((w.alloc (.cells #[.slice o n c] 33)).alloc (.cells #[.int .i64 (T : Int)] 3)) := ((Below.refl _ _).alloc (Nat.le_refl _) _).alloc (by simp) _
  refine (fdGiver1_calls (w.heap.size + 1) w.heap.size o n c T L _ (Nat.lt_succ_self _) hT hn (by simp [go_sem]) (by simp [go_sem]) (by simp [go_sem]) ((hL.toB (Nat.le_succ _)).only h2 (fun _ _ h => h))).mono ?_
  rintro e w' ⟨rfl, hb'⟩
  exact ⟨rfl, hb.trans (hb'.mono (Nat.le_succ _))⟩

theorem fdNext_calls (g : Nat) (o : Option Addr) (n c T : Nat) (L : Nat → Int) (w : World) (hT : T < 4611686018427387903) (hn : n ≤ 140737488355328) (hF : FB w g o n c T) (hL : NumsB w .u8 o n L g) :
    Calls Try.prog 63 #[.pointer (some ⟨g, 0, none⟩)] w fun e w' => e = .returned (.int .u8 (nxV L n T)) ∧ FB w' g o n c (T + 1) ∧ Only (fun k => k = g) w w' := by
  have hc0 : w.drew.cell? ⟨g, 0, none⟩ = some (.slice o n c) := hF.cell 0
  have hc1 : w.drew.cell? ⟨g, 1, none⟩ = some (.int .i64 (T : Int)) := hF.cell 1
  have hg := hF.lt
  have hcl : Calls Try.prog 82 #[.pointer (some ⟨w.heap.size + 1, 0, none⟩), .pointer (some ⟨w.heap.size, 0, none⟩)] (((w.alloc (.cells #[.slice o n c] 33)).alloc (.cells #[.int .i64 (T : Int)] 3)).drew)
      fun e w' => e = .returned (.int .u8 (nxV L n T)) ∧ Below w.heap.size w w' := (fdBoxes w.drew o n c T L (hL.nums.below (Below.drew (Below.refl w.heap.size w)) (Nat.le_refl _)) (by omega) hn).mono fun e w' h => ⟨h.1, (Below.drew (Below.refl w.heap.size w)).trans h.2⟩
  go_enter Try.func63, Try.ntmps63
  go_wp2_with fail
  go_region_law (first
    | (go_simp; go_at_call 76; refine (fdGiver_calls o n c (T : Int) w.drew).mono ?_; rintro e w' ⟨rfl, rfl⟩)
    | (go_simp; go_at_call 82; refine hcl.mono ?_; rintro e w3 ⟨rfl, hb3⟩))
  all_goals
    have hb4 := hb3
    have hF3 := hF.below hb4 hg
    have hd1 : w3.cell? ⟨g, 1, none⟩ = some (.int .i64 (T : Int)) := hF3.cell 1
    have hfr := hF3.frozen 1
    go_wp2_with fail
    go_ret
    refine ⟨rfl, ?_, Only.setCell (S := fun k => k = g) (Only.of hb4) ⟨g, 1, none⟩ rfl _⟩
    exact hF3.set_ 1 (.int .i64 ((T : Int) + 1))

/-! ### the document's -/
end Go.Proofs.Ytemfdkoipeedeaa
