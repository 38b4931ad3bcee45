/-
  Package feed, but Check; gannetref06.
-/
import Derived.Test.YtggcnlcnmaaopaaOnly
import Derived.Test.YtggcnlcnmaaopaaMake
import Derived.Lib.LazyBuf
namespace Go.Proofs.Ytggcnlcnmaaopaa
set_option linter.unusedSimpArgs false
set_option linter.unusedVariables false
set_option maxRecDepth 10000
open Go.RowKit

theorem infoU8f : (Try.prog.info? 5).map (fun i => (i.zero, i.size, i.bytes)) = some (some (.int .u8 0), 1, 1) := by kernel_rfl
/-- The numbers of a slice, as a list. -/
def lst8 (L : Nat → Int) (n : Nat) : List Int := (List.range n).map L
theorem lst8_get (L : Nat → Int) (n i : Nat) (h : i < n) : (lst8 L n).getD i 0 = L i := by unfold lst8; simp [List.getD, h]

theorem slClone_calls (o : Option Addr) (n c : Nat) (L : Nat → Int) (w : World) (hn : n ≤ 140737488355328) (hL : NumsAt w .u8 o n L) :
    Calls Try.prog 46 #[.slice o n c] w fun e w' => ∃ o' c', e = .returned (.slice o' n c') ∧ NumsAt w' .u8 o' n L ∧ Below w.heap.size w w' := by
  obtain ⟨i0, hi, hz0, hz1, hz2⟩ := info_parts infoU8f
  have hnil := fun W a l c => run_eql_slice_nil W 29 5 a l c Try.underlying29
  have hnil2 := fun W a l c => run_equalIn_slice_nil W 9999 29 5 a l c Try.underlying29
  cases o with
  | none =>
    have hn0 : n = 0 := by
      rcases Nat.eq_zero_or_pos n with h | h
      · exact h
      · obtain ⟨_, _, h, _⟩ := hL 0 h; cases h
    subst hn0
    go_enter Try.func46, Try.ntmps46
    go_wp2_with fail
    go_ret
    exact ⟨_, _, rfl, fun i hi => by omega, by (repeat (first | exact Below.refl _ _ | assumption | refine Below.drew ?_ | refine Bl.alloc ?_ _ | refine below_drewN ?_ _ | refine Bl.chain ?_ (by assumption) (Nat.le_refl _)))⟩
  | some a =>
    have hown := World.ownsRow_lit w (base := w.heap.size) (e := 5) (size := 1) #[] 0 (Nat.le_refl _) (by decide) rfl
    go_enter Try.func46, Try.ntmps46
    go_wp2_with (at_builtin; refine wpList_append_own _ rfl _ _ 29 rfl w.heap.size 5 i0 (.int .u8 0) 1 1 Try.underlying29 hi hz0 hz1 hz2 rfl (by decide) _ _ _ rfl hown _ n c ((lst8 L n).map (Value.int .u8)) rfl ?c0 ?c1 ?c2 ?c3 ?c4 ?c5 ?_)
    case c0 => simp [lst8]
    case c1 =>
      intro j u hu
      have hj : j < n := by
        have := (List.getElem?_eq_some_iff.1 hu).1
        simpa [lst8] using this
      obtain ⟨b, off, ha, hlt, hc⟩ := hL j hj
      injection ha with ha
      subst ha
      have e : u = L j := by simpa [lst8, hj, eq_comm] using hu
      rw [add_plain, e]
      exact (World.cell?_alloc_lt w _ ⟨b, off + j, none⟩ hlt).trans hc
    case c2 =>
      intro u hu
      rfl
    case c3 => unfold maxLen; omega
    intro v1 w1 hown1 hgrow1 _
    obtain ⟨o', c', rfl, hn1⟩ := nums_of_own hown1
    go_wp2_with fail
    go_ret
    refine ⟨_, _, rfl, fun i hi => ?_, ?_⟩
    · have := hn1 i hi
      dsimp only at this ⊢
      rwa [lst8_get L n i hi] at this
    · exact (Bl.alloc (Below.refl _ _) _).grown hgrow1 (by simp) (fun k hk => (hown.lt k hk).1)

/-- A feed, as it lies. -/
def FB (w : World) (g : Nat) (o : Option Addr) (n c T : Nat) : Prop := Blk w g 93 #[.slice o n c, .int .i64 (T : Int)]
def nxV (L : Nat → Int) (n T : Nat) : Int := if T < n then L T else 255
def pkV (L : Nat → Int) (n T : Nat) (k : Int) : Int := if k < 0 ∨ ((n - T : Nat) : Int) ≤ k then 255 else L (T + k.toNat)

theorem fdNew_calls (o : Option Addr) (n c : Nat) (L : Nat → Int) (w : World) (hn : n ≤ 140737488355328) (hL : NumsAt w .u8 o n L) :
    Calls Try.prog 19 #[.slice o n c] w fun e w' => ∃ g o' c', e = .returned (.pointer (some ⟨g, 0, none⟩)) ∧ FB w' g o' n c' 0 ∧ NumsB w' .u8 o' n L g ∧ w.heap.size ≤ g ∧ Below w.heap.size w w' := by
  go_enter Try.func19, Try.ntmps19
  go_wp2_with fail
  refine (slClone_calls o n c L _ hn hL).mono ?_
  rintro e w1 ⟨o', c', rfl, hn1, hb1⟩
  go_wp2_with fail
  go_ret
  refine ⟨w1.heap.size, o', c', rfl, Blk.new _ _ _, ?_, hb1.size, by (repeat (first | exact Below.refl _ _ | assumption | refine Below.drew ?_ | refine Bl.alloc ?_ _ | refine below_drewN ?_ _ | refine Bl.chain ?_ (by assumption) (Nat.le_refl _)))⟩
  exact (hn1.toB (Nat.le_refl _)).only ((Only.refl (fun _ => False) w1).alloc _) (fun _ _ h => h)

theorem fdTaken_calls (g : Nat) (o : Option Addr) (n c T : Nat) (w : World) (hF : FB w g o n c T) :
    Calls Try.prog 39 #[.pointer (some ⟨g, 0, none⟩)] w fun e w' => e = .returned (.int .i64 (T : Int)) ∧ w = w' := by
  have hc1 : w.cell? ⟨g, 1, none⟩ = some (.int .i64 (T : Int)) := hF.cell 1
  go_enter Try.func39, Try.ntmps39
  go_wp2_with fail
  go_ret
  exact ⟨rfl, rfl⟩
/-! ### the document's -/
end Go.Proofs.Ytggcnlcnmaaopaa
