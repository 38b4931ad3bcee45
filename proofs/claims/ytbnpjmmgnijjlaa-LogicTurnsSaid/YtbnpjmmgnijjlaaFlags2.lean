/-
  Package flags: Pushed, Entered; gannetref20.
-/
import Derived.Test.YtbnpjmmgnijjlaaFlags
import Derived.Test.YtbnpjmmgnijjlaaRbits
namespace Go.Proofs.Ytbnpjmmgnijjlaa
open Go.RowKit Pl


theorem run_eql_flags (f g : Nat → Bool) (w : World) : (binOp .eql 41 (.agg (bools f)) (.agg (bools g))).run Try.prog w = .ok (.bool ((List.range 8).all fun i => f i == g i)) w := by
  have hp : Try.prog.stoodInHeld 41 = false := by kernel_rfl
  have hb : ∀ w, (isAgg 4).run Try.prog w = .ok false w := fun w => by simp [isAgg, run_underlying Try.underlying4]
  rw [run_eql_struct, run_equalIn_agg w 9999 41 _ _ Try.underlying41 hp]
  simp only [Program.fieldsOf, Try.underlying41, bools]
  simp [Op.eqFields, part, hb, run_equalIn_bool' _ _ _ _ _ Try.underlying4, List.range_succ]
  by_cases h0 : f 0 = g 0
  · simp only [h0, if_true, beq_self_eq_true, Bool.true_and]
    by_cases h1 : f 1 = g 1
    · simp only [h1, if_true, beq_self_eq_true, Bool.true_and]
      by_cases h2 : f 2 = g 2
      · simp only [h2, if_true, beq_self_eq_true, Bool.true_and]
        by_cases h3 : f 3 = g 3
        · simp only [h3, if_true, beq_self_eq_true, Bool.true_and]
          by_cases h4 : f 4 = g 4
          · simp only [h4, if_true, beq_self_eq_true, Bool.true_and]
            by_cases h5 : f 5 = g 5
            · simp only [h5, if_true, beq_self_eq_true, Bool.true_and]
              by_cases h6 : f 6 = g 6
              · simp only [h6, if_true, beq_self_eq_true, Bool.true_and]
                by_cases h7 : f 7 = g 7
                · simp [h7]
                · simp [h7]
              · simp [h6]
            · simp [h5]
          · simp [h4]
        · simp [h3]
      · simp [h2]
    · simp [h1]
  · simp [h0]

theorem run_neq_flags (f g : Nat → Bool) (w : World) : (binOp .neq 41 (.agg (bools f)) (.agg (bools g))).run Try.prog w = .ok (.bool (!(List.range 8).all fun i => f i == g i)) w := by
  have h := run_eql_flags f g w
  rw [run_eql_struct] at h
  rw [run_neq_struct]
  cases hr : (Op.equalIn 10000 41 (.agg (bools f)) (.agg (bools g))).run Try.prog w with
  | ok b w' =>
    rw [hr] at h
    simp only [Result.andThen_ok, Result.ok.injEq, Value.bool.injEq] at h
    obtain ⟨h1, h2⟩ := h
    subst h1; subst h2
    rfl
  | halt x w' => rw [hr] at h; cases h


theorem wth0 (p : Nat) (on : Bool) : wth p 0 on = fset p 1 on := (fset_wth p 0 on (by omega)).symm
theorem wth1 (p : Nat) (on : Bool) : wth p 1 on = fset p 2 on := (fset_wth p 1 on (by omega)).symm
theorem wth2 (p : Nat) (on : Bool) : wth p 2 on = fset p 4 on := (fset_wth p 2 on (by omega)).symm
theorem wth3 (p : Nat) (on : Bool) : wth p 3 on = fset p 8 on := (fset_wth p 3 on (by omega)).symm
theorem wth4 (p : Nat) (on : Bool) : wth p 4 on = fset p 16 on := (fset_wth p 4 on (by omega)).symm
theorem wth5 (p : Nat) (on : Bool) : wth p 5 on = fset p 32 on := (fset_wth p 5 on (by omega)).symm
theorem wth6 (p : Nat) (on : Bool) : wth p 6 on = fset p 64 on := (fset_wth p 6 on (by omega)).symm
theorem wth7 (p : Nat) (on : Bool) : wth p 7 on = fset p 128 on := (fset_wth p 7 on (by omega)).symm
theorem res_eq (p v : Nat) (hv : v < 256) : wth (wth p 7 (decide ((128 : Int) ≤ (v : Int)))) 1 ((v : Int) == 0) = fres p v := by
  have h1 : decide ((128 : Int) ≤ (v : Int)) = fis v 128 := by
    rw [fis_128 v hv, decide_eq_decide]
    omega
  rw [h1, natCast_beq, wth1, wth7]
  rfl

theorem r20Set_calls (b : Nat) (n : Int) (on : Bool) (w : World) (hb : b < 256) :
    Calls Try.prog 30 #[.int .u8 (b : Int), .int .i64 n, .bool on] w
      fun e w' => e = .returned (.int .u8 (wth b n on : Nat)) ∧ Below w.heap.size w w' := by
  go_enter Try.func30, Try.ntmps30
  go_wp2_with fail
  refine (refWith_calls b n on _ hb).mono ?_
  rintro e w1 ⟨rfl, hb1⟩
  go_wp2_with fail
  go_ret
  exact ⟨rfl, hb1⟩

theorem r20Is_calls (b : Nat) (n : Int) (w : World) (hb : b < 256) :
    Calls Try.prog 23 #[.int .u8 (b : Int), .int .i64 n] w fun e w' => e = .returned (.bool (tb b n)) ∧ w = w' := by
  go_enter Try.func23, Try.ntmps23
  go_wp2_with fail
  refine (refBit_calls b n _ hb).mono ?_
  rintro e w1 ⟨rfl, rfl⟩
  go_wp2_with fail
  go_ret
  exact ⟨rfl, rfl⟩

theorem r20Result_calls (p v : Nat) (w : World) (hp : p < 256) (hv : v < 256) :
    Calls Try.prog 17 #[.int .u8 (p : Int), .int .u8 (v : Int)] w
      fun e w' => e = .returned (.int .u8 (fres p v : Nat)) ∧ Below w.heap.size w w' := by
  go_enter Try.func17, Try.ntmps17
  go_wp2_with fail
  refine (r20Set_calls p 7 _ _ hp).mono ?_
  rintro e w1 ⟨rfl, hb1⟩
  go_wp2_with fail
  refine (r20Set_calls _ 1 _ _ (wth_lt hp)).mono ?_
  rintro e w2 ⟨rfl, hb2⟩
  go_wp2_with fail
  go_ret
  exact ⟨ret_int (congrArg (Nat.cast (R := Int)) (res_eq p v hv)), hb1.trans (hb2.mono hb1.size)⟩



end Go.Proofs.Ytbnpjmmgnijjlaa
