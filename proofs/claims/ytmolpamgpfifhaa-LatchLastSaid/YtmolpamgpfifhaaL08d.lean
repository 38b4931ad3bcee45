/-
  gannetlaw08.live.
-/
import Derived.Test.YtmolpamgpfifhaaL08c
namespace Go.Proofs.Ytmolpamgpfifhaa
open Go.RowKit Pl

theorem bitLive0 : mix 128 127 18 = 146 := by decide
theorem bitLive1 : mix 0 15 53 = 5 := by decide

theorem live_arr : arr 8 (lastK (fun i => if i = 0 then 15 else 3) 2 8) = #[.int .i64 1, .int .i64 1, .int .i64 0, .int .i64 0, .int .i64 (-1), .int .i64 (-1), .int .i64 (-1), .int .i64 (-1)] := by
  simp only [arr, List.range_succ, List.range_zero, List.nil_append, List.cons_append, List.map_cons, List.map_nil]
  congr 2 <;> decide
theorem steps2 (w : World) (g : Nat) (h : g = w.heap.size) : StepsAt (w.alloc (.cells #[.int .u8 15, .int .u8 0, .int .u8 3, .int .u8 0] 34)) (some ⟨g, 0, none⟩) 2 (fun i => if i = 0 then 15 else 3) (fun _ => 0) := by
  subst h
  intro i hi
  refine ⟨_, 0, rfl, by simp, ?_⟩
  match i, hi with
  | 0, _ => simp [go_sem]
  | 1, _ => simp [go_sem]

theorem live08_calls (w : World) : Calls Try.prog 6 #[] w fun e w' => e = .returned (.bool true) ∧ Below w.heap.size w w' := by
  go_enter Try.func6, Try.ntmps6
  go_wp2_with fail
  refine (latNew_calls 128 _).mono ?_
  rintro e w' ⟨rfl, rfl⟩
  go_wp2_with fail
  refine (latRead_calls _ 128 127 18 _ (by omega) (by omega) (by omega) (by simp [go_sem]) (by simp [go_sem])).mono ?_
  rintro e w' ⟨rfl, rfl⟩
  rw [bitLive0]
  go_wp2_with fail
  refine (latValue_calls _ 146 _ (by simp [go_sem])).mono ?_
  rintro e w' ⟨rfl, rfl⟩
  go_wp2_with fail
  refine (latWrite_calls _ 146 3 _ (by simp [go_sem]) (by simp [go_sem])).mono ?_
  rintro e w' ⟨rfl, rfl⟩
  go_wp2_with fail
  refine (latWrite_nil 7 _).mono ?_
  rintro e w' ⟨rfl, rfl⟩
  go_wp2_with fail
  refine (latLast_calls _ 2 2 (fun i => if i = 0 then 15 else 3) (fun _ => 0) _ (steps2 _ _ (by simp [go_sem])) (by omega)).mono ?_
  rintro e w' ⟨rfl, hb⟩
  rw [live_arr]
  have hcL : w'.cell? ⟨w.heap.size, 0, none⟩ = some (.int .u8 3) := (hb.cell (p := ⟨w.heap.size, 0, none⟩) (by simp; omega)).trans (by simp [go_sem])
  have hsz : w.heap.size < w'.heap.size := Nat.lt_of_lt_of_le (by simp; omega) hb.size
  have hcL' := fun o => (World.cell?_alloc_past (w := w') o w.heap.size 0 hsz).trans hcL
  have hbel : Below w.heap.size w w' := (((Below.refl w.heap.size w).alloc (Nat.le_refl _) _).alloc (by simp) _).trans (hb.mono (by simp; omega))
  go_wp2_with fail
  refine (latValue_calls _ 3 _ (hcL' _)).mono ?_
  rintro e w1 ⟨rfl, rfl⟩
  go_wp2_with fail
  refine (latValue_nil _).mono ?_
  rintro e w1 ⟨rfl, rfl⟩
  go_wp2_with fail
  refine (latRead_nil 15 53 _ (by omega) (by omega)).mono ?_
  rintro e w1 ⟨rfl, rfl⟩
  rw [bitLive1]
  have heq : ∀ w : World, (binOp .eql 36 (.agg #[.int .i64 1, .int .i64 1, .int .i64 0, .int .i64 0, .int .i64 (-1), .int .i64 (-1), .int .i64 (-1), .int .i64 (-1)]) (.agg #[.int .i64 1, .int .i64 1, .int .i64 0, .int .i64 0, .int .i64 (-1), .int .i64 (-1), .int .i64 (-1), .int .i64 (-1)])).run Try.prog w = .ok (.bool true) w :=
    fun w => run_eql_ints 36 3 8 .i64 Try.underlying36 Try.underlying3 (fun _ => by kernel_rfl) (fun i => if i < 2 then 1 else if i < 4 then 0 else -1) (fun i => if i < 2 then 1 else if i < 4 then 0 else -1) w
  have hgd : Try.prog.eqGuardType Try.prog.depth 36 = false := by kernel_rfl
  go_wp2_with fail
  go_ret
  exact ⟨rfl, hbel.alloc (by omega) _⟩
end Go.Proofs.Ytmolpamgpfifhaa
