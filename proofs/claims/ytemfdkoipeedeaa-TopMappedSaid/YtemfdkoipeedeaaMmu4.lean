/-
  Package mmu: nil receivers, Seen.
-/
import Derived.Test.YtemfdkoipeedeaaMmu3
namespace Go.Proofs.Ytemfdkoipeedeaa
set_option linter.unusedSimpArgs false
set_option linter.unusedVariables false
set_option maxRecDepth 10000
open Go.RowKit Pl

def noA : Nat → Nat := fun _ => 0
theorem nilBanks_calls (w : World) : Calls Try.prog 28 #[.pointer none] w fun e w' => e = .returned (.agg (bk8 noA)) ∧ Below w.heap.size w w' := by
  go_enter Try.func28, Try.ntmps28
  go_wp2_with fail
  refine bodyPost_ret (results_cell_row rfl _ _ w.heap.size 22 #[.int .u8 0, .int .u8 0, .int .u8 0, .int .u8 0, .int .u8 0, .int .u8 0, .int .u8 0, .int .u8 0] (0, 0) _ rfl (heap_alloc_new w _) Try.underlying22 rfl (by kernel_rfl)) rfl ⟨rfl, (Below.refl _ _).alloc (Nat.le_refl _) _⟩
theorem bkIx (A : Nat → Nat) (j : Nat) (k : IntKind) (hj : j < 8) (W : World) : (Instr.index 22 (.agg (bk8 A)) (.int k (j : Int))).run Try.prog W = .ok (.int .u8 (A j : Int)) W :=
  run_index_row 22 5 8 Try.underlying22 (fun _ => by kernel_rfl) (fun _ => by kernel_rfl) (bk8 A) k j hj (.int .u8 (A j : Int)) (bk8_get A _ hj) W
theorem nilPhys_calls (w : World) : Calls Try.prog 9 #[.pointer none, .int .u16 5] w fun e w' => e = .returned (.int .u32 5) ∧ Below w.heap.size w w' := by
  have hx : ∀ W, (Instr.index 22 (.agg (bk8 noA)) (.int .u16 0)).run Try.prog W = .ok (.int .u8 0) W := fun W => bkIx noA 0 .u16 (by omega) W
  go_enter Try.func9, Try.ntmps9
  (go_wp2_with fail; refine Cl.m (nilBanks_calls _) ?_; intro w1 hb1)
  go_wp2_with fail
  refine Cl.p (phAddr_calls (noA 0) 5 _ (by decide) (by omega)) ?_
  go_wp2_with fail
  go_ret
  exact ⟨rfl, by (repeat (first | exact Below.refl _ _ | assumption | refine Below.drew ?_ | refine Bl.alloc ?_ _ | refine below_drewN ?_ _ | refine Bl.chain ?_ (by assumption) (Nat.le_refl _)))⟩
/-- The logical addresses of a physical one, by the pages below j. -/
def sL (A : Nat → Nat) (a : Nat) : Nat → List Int
  | 0 => []
  | j + 1 => sL A a j ++ (if A j = bnk a then [((j * 8192 + a % 8192 : Nat) : Int)] else [])
theorem sL_len (A : Nat → Nat) (a : Nat) : ∀ j, (sL A a j).length ≤ j
  | 0 => Nat.le_refl _
  | j + 1 => by
    have := sL_len A a j
    unfold sL
    rw [List.length_append]
    split <;> simp <;> omega
set_option maxHeartbeats 8000000 in
theorem mmSeen_calls (p : Value) (a : Nat) (A : Nat → Nat) (w : World) (ha : a < 4294967296) (hB : ∀ W, Below w.heap.size w W → Calls Try.prog 28 #[p] W fun e w' => e = .returned (.agg (bk8 A)) ∧ Below W.heap.size W w') :
    Calls Try.prog 11 #[p, .int .u32 (a : Int)] w fun e w' => ∃ v, e = .returned v ∧ w'.ownsRow w.heap.size 23 1 v (sL A a 8).length ((sL A a 8).map (Value.int .u16)) ∧ Below w.heap.size w w' := by
  obtain ⟨x0, hi, hz0, hz1, hz2⟩ := info_parts (show (Try.prog.info? 23).map (fun i => (i.zero, i.size, i.bytes)) = some (some (.int .u16 0), 1, 2) by kernel_rfl)
  have hbk := bnk_lt a
  go_enter Try.func11, Try.ntmps11
  go_wp2_with fail
  refine Cl.m (hB _ (Below.refl _ _)) ?_
  intro w1 hb1
  clear hB
  go_wp2_with fail
  go_loopw [5, 10] (fun v i wr => ∃ j : Nat, j ≤ 8 ∧ i = .int .i64 (j : Int) ∧ wr.ownsRow w.heap.size 23 1 v (sL A a j).length ((sL A a j).map (Value.int .u16)) ∧ Below w.heap.size w wr) (fun _ i _ => 8 - (intOf i).toNat)
  case atStart => exact ⟨0, by omega, rfl, World.ownsRow_nil _ _ _ _, hb1⟩
  case round =>
    obtain ⟨j, hj, rfl, hown, hbel⟩ := hrel
    by_cases hjn : j < 8
    · have hjn' : (j : Int) < 8 := by omega
      have hx := fun W => bkIx A j .i64 hjn W
      have hln := sL_len A a j
      have hlsucc : sL A a (j + 1) = sL A a j ++ (if A j = bnk a then [((j * 8192 + a % 8192 : Nat) : Int)] else []) := rfl
      by_cases he : A j = bnk a
      · rw [if_pos he] at hlsucc
        have hc : ((A j : Int) == (bnk a : Int)) = true := by rw [beq_iff_eq]; omega
        have hbz := hbel.size
        have ho : bits .or .u16 ((j : Int) * 8192) ((a : Int) % 8192) = ((j * 8192 + a % 8192 : Nat) : Int) := by
          rw [show (j : Int) * 8192 = ((j * 8192 : Nat) : Int) from by omega, show (a : Int) % 8192 = ((a % 8192 : Nat) : Int) from by omega, u16_or_nat _ _ (by omega) (by omega)]
          congr 1
          have h := adr_or j a
          unfold adr at h
          exact h
        generalize j * 8192 + a % 8192 = q at *
        have Hs := hide hlsucc
        clear hlsucc he
        go_wp2_with fail
        refine Cl.p (phBank_calls a _ ha) ?_
        go_wp2_with fail
        refine Cl.p (phOff_calls a _ ha) ?_
        go_wp2_with (at_builtin; refine wpList_append_own _ rfl _ _ 42 rfl w.heap.size 23 x0 (.int .u16 0) 1 2 Try.underlying42 hi hz0 hz1 hz2 rfl (by decide) _ _ _ rfl (hown.alloc _) _ 1 1 [.int .u16 (q : Int)] rfl rfl ?c1 ?c2 ?c3 ?c4 ?c5 ?_)
        case c1 => exact one_new_at _ _ _ _ rfl
        case c2 => exact one_int _ _
        case c3 => unfold maxLen; omega
        case c4 => omega
        case c5 => simp; omega
        intro v1 w2 hown1 hgrow1 _
        have hb2 := (Bl.alloc hbel _).grown hgrow1 (by simp; omega) (fun k hk => by have := (hown.lt k hk).1; omega)
        go_wp2_with fail
        go_roundw
        case rel => exact ⟨j + 1, by omega, by go_num, by rw [Hs.out, List.length_append, List.map_append]; exact hown1, hb2⟩
        case measure => simp [intOf]; omega
      · rw [if_neg he, List.append_nil] at hlsucc
        have hc : ((A j : Int) == (bnk a : Int)) = false := by rw [beq_eq_false_iff_ne]; omega
        have Hs := hide hlsucc
        clear hlsucc he
        go_wp2_with fail
        refine Cl.p (phBank_calls a _ ha) ?_
        go_wp2_with fail
        go_roundw
        case rel => exact ⟨j + 1, by omega, by go_num, by rw [Hs.out]; exact hown, hbel⟩
        case measure => simp [intOf]; omega
    · obtain rfl : j = 8 := by omega
      go_wp2_with fail
      go_ret
      exact ⟨_, rfl, hown, hbel⟩
end Go.Proofs.Ytemfdkoipeedeaa
