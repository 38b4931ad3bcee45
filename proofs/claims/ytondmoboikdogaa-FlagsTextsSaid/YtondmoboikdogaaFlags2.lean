/-
  Package flags: Pushed, Entered; gannetref20.
-/
import Derived.Test.YtondmoboikdogaaFlags
import Derived.Test.YtondmoboikdogaaRbits
namespace Go.Proofs.Ytondmoboikdogaa
open Go.RowKit Pl

theorem flPushed_calls (p : Nat) (on : Bool) (w : World) (hp : p < 256) :
    Calls Try.prog 22 #[.int .u8 (p : Int), .bool on] w fun e w' => e = .returned (.int .u8 (fset (fset p 32 false) 16 on : Nat)) ∧ Below w.heap.size w w' := by
  have hg2 := bools_get (flagsOf p) 2 (by omega)
  have hs2 := bools_set (flagsOf p) 2 false (by omega)
  have hg3 := bools_get (upd (flagsOf p) 2 false) 3 (by omega)
  have hs3 := bools_set (upd (flagsOf p) 2 false) 3 on (by omega)
  go_enter Try.func22, Try.ntmps22
  go_wp2_with fail
  refine (flOf_calls p _ hp).mono ?_
  rintro e w1 ⟨rfl, hb1⟩
  have hz : Blk (w1.alloc (.cells (bools fun _ => false) 24)) w1.heap.size 24 (bools fun _ => false) := Blk.new _ _ _
  go_wp2_with (first
    | (refine wpList_store_row rfl 24 _ _ rfl w1.heap.size (bools (flagsOf p)) rfl rfl 24 _ hz (by kernel_rfl) rfl (by kernel_rfl) ?_; rw [setRow_new])
    | (refine wpList_load_row rfl 24 _ rfl w1.heap.size rfl 24 _ (0, 0) _ (heap_alloc_new w1 _) Try.underlying24 rfl (by kernel_rfl) ?_))
  refine (flByte_calls _ _).mono ?_
  rintro e w2 ⟨rfl, hb2⟩
  go_wp2_with fail
  go_ret
  exact ⟨ret_int (congrArg (Nat.cast (R := Int)) (pushed_eq p on hp)), (hb1.alloc hb1.size _).trans (hb2.mono (by have := hb1.size; simp; omega))⟩

theorem run_eql_flags (f g : Nat → Bool) (w : World) : (binOp .eql 24 (.agg (bools f)) (.agg (bools g))).run Try.prog w = .ok (.bool ((List.range 8).all fun i => f i == g i)) w := by
  have hp : Try.prog.stoodInHeld 24 = false := by kernel_rfl
  have hb : ∀ w, (isAgg 4).run Try.prog w = .ok false w := fun w => by simp [isAgg, run_underlying Try.underlying4]
  rw [run_eql_struct, run_equalIn_agg w 9999 24 _ _ Try.underlying24 hp]
  simp only [Program.fieldsOf, Try.underlying24, bools]
  simp [Op.eqFields, part, hb, run_equalIn_bool' _ _ _ _ _ Try.underlying4, List.range_succ]
  by_cases h0 : f 0 = g 0
  · simp only [h0, if_true, beq_self_eq_true, Bool.true_and]
    by_cases h1 : f 1 = g 1
    · simp only [h1, if_true, beq_self_eq_true, Bool.true_and]
      by_cases h2 : f 2 = g 2
      · simp only [h2, if_true, beq_self_eq_true, Bool.true_and]
        by_cases h3 : f 3 = g 3
        · simp only [h3, if_true, beq_self_eq_true, Bool.true_and]
          by_cases h4 : f 4 = g 4
          · simp only [h4, if_true, beq_self_eq_true, Bool.true_and]
            by_cases h5 : f 5 = g 5
            · simp only [h5, if_true, beq_self_eq_true, Bool.true_and]
              by_cases h6 : f 6 = g 6
              · simp only [h6, if_true, beq_self_eq_true, Bool.true_and]
                by_cases h7 : f 7 = g 7
                · simp [h7]
                · simp [h7]
              · simp [h6]
            · simp [h5]
          · simp [h4]
        · simp [h3]
      · simp [h2]
    · simp [h1]
  · simp [h0]

theorem run_neq_flags (f g : Nat → Bool) (w : World) : (binOp .neq 24 (.agg (bools f)) (.agg (bools g))).run Try.prog w = .ok (.bool (!(List.range 8).all fun i => f i == g i)) w := by
  have h := run_eql_flags f g w
  rw [run_eql_struct] at h
  rw [run_neq_struct]
  cases hr : (Op.equalIn 10000 24 (.agg (bools f)) (.agg (bools g))).run Try.prog w with
  | ok b w' =>
    rw [hr] at h
    simp only [Result.andThen_ok, Result.ok.injEq, Value.bool.injEq] at h
    obtain ⟨h1, h2⟩ := h
    subst h1; subst h2
    rfl
  | halt x w' => rw [hr] at h; cases h

theorem flEntered_calls (p : Nat) (w : World) (hp : p < 256) :
    Calls Try.prog 26 #[.int .u8 (p : Int)] w fun e w' => e = .returned (.int .u8 (entered p : Nat)) ∧ Below w.heap.size w w' := by
  have hgd : Try.prog.eqGuardType Try.prog.depth 24 = false := by kernel_rfl
  have hg5 := bools_get (flagsOf p) 5 (by omega)
  have hs5 := bools_set (flagsOf p) 5 true (by omega)
  have hg3 := bools_get (upd (flagsOf p) 5 true) 3 (by omega)
  have hs3 := bools_set (upd (flagsOf p) 5 true) 3 false (by omega)
  have hg4 := bools_get (upd (upd (flagsOf p) 5 true) 3 false) 4 (by omega)
  have hs4 := bools_set (upd (upd (flagsOf p) 5 true) 3 false) 4 false (by omega)
  have hg2 := bools_get (upd (upd (upd (flagsOf p) 5 true) 3 false) 4 false) 2 (by omega)
  have hs2 := bools_set (upd (upd (upd (flagsOf p) 5 true) 3 false) 4 false) 2 false (by omega)
  obtain ⟨q, hq⟩ : ∃ q, ((List.range 8).all fun i => flagsOf p i == (i == 5)) = q := ⟨_, rfl⟩
  have heq : ∀ w, (binOp .eql 24 (.agg (bools (flagsOf p))) (.agg #[.bool false, .bool false, .bool false, .bool false, .bool false, .bool true, .bool false, .bool false])).run Try.prog w = .ok (.bool q) w := by
    intro w
    rw [← hq]
    exact run_eql_flags (flagsOf p) (fun i => i == 5) w
  cases q
  · clear hq
    go_enter Try.func26, Try.ntmps26
    go_wp2_with fail
    refine (flOf_calls p _ hp).mono ?_
    rintro e w1 ⟨rfl, hb1⟩
    have hz : Blk (w1.alloc (.cells (bools fun _ => false) 24)) w1.heap.size 24 (bools fun _ => false) := Blk.new _ _ _
    go_wp2_with (first
      | (refine wpList_store_row rfl 24 _ _ rfl w1.heap.size (bools (flagsOf p)) rfl rfl 24 _ hz (by kernel_rfl) rfl (by kernel_rfl) ?_; rw [setRow_new])
      | (refine wpList_load_row rfl 24 _ rfl w1.heap.size rfl 24 _ (0, 0) _ (heap_alloc_new w1 _) Try.underlying24 rfl (by kernel_rfl) ?_))
    refine (flByte_calls _ _).mono ?_
    rintro e w2 ⟨rfl, hb2⟩
    go_wp2_with fail
    go_ret
    exact ⟨ret_int (congrArg (Nat.cast (R := Int)) (entered_eq p hp)), (hb1.alloc hb1.size _).trans (hb2.mono (by have := hb1.size; simp; omega))⟩
  · have hp4 := flags_only_i p hp (fun i hi => by
      have := List.all_eq_true.1 hq i (by simpa using hi)
      simpa using this)
    have H4 := hide hp4
    clear hq hp4
    go_enter Try.func26, Try.ntmps26
    go_wp2_with fail
    refine (flOf_calls p _ hp).mono ?_
    rintro e w1 ⟨rfl, hb1⟩
    have hz : Blk (w1.alloc (.cells (bools fun _ => false) 24)) w1.heap.size 24 (bools fun _ => false) := Blk.new _ _ _
    go_wp2_with (first
      | (refine wpList_store_row rfl 24 _ _ rfl w1.heap.size (bools (flagsOf p)) rfl rfl 24 _ hz (by kernel_rfl) rfl (by kernel_rfl) ?_; rw [setRow_new])
      | (refine wpList_load_row rfl 24 _ rfl w1.heap.size rfl 24 _ (0, 0) _ (heap_alloc_new w1 _) Try.underlying24 rfl (by kernel_rfl) ?_))
    go_ret
    exact ⟨ret_int (by rw [H4.out]; rfl), hb1.alloc hb1.size _⟩

theorem wth0 (p : Nat) (on : Bool) : wth p 0 on = fset p 1 on := (fset_wth p 0 on (by omega)).symm
theorem wth1 (p : Nat) (on : Bool) : wth p 1 on = fset p 2 on := (fset_wth p 1 on (by omega)).symm
theorem wth2 (p : Nat) (on : Bool) : wth p 2 on = fset p 4 on := (fset_wth p 2 on (by omega)).symm
theorem wth3 (p : Nat) (on : Bool) : wth p 3 on = fset p 8 on := (fset_wth p 3 on (by omega)).symm
theorem wth4 (p : Nat) (on : Bool) : wth p 4 on = fset p 16 on := (fset_wth p 4 on (by omega)).symm
theorem wth5 (p : Nat) (on : Bool) : wth p 5 on = fset p 32 on := (fset_wth p 5 on (by omega)).symm
theorem wth6 (p : Nat) (on : Bool) : wth p 6 on = fset p 64 on := (fset_wth p 6 on (by omega)).symm
theorem wth7 (p : Nat) (on : Bool) : wth p 7 on = fset p 128 on := (fset_wth p 7 on (by omega)).symm
theorem res_eq (p v : Nat) (hv : v < 256) : wth (wth p 7 (decide ((128 : Int) ≤ (v : Int)))) 1 ((v : Int) == 0) = fres p v := by
  have h1 : decide ((128 : Int) ≤ (v : Int)) = fis v 128 := by
    rw [fis_128 v hv, decide_eq_decide]
    omega
  rw [h1, natCast_beq, wth1, wth7]
  rfl

theorem r20Set_calls (b : Nat) (n : Int) (on : Bool) (w : World) (hb : b < 256) :
    Calls Try.prog 11 #[.int .u8 (b : Int), .int .i64 n, .bool on] w
      fun e w' => e = .returned (.int .u8 (wth b n on : Nat)) ∧ Below w.heap.size w w' := by
  go_enter Try.func11, Try.ntmps11
  go_wp2_with fail
  refine (refWith_calls b n on _ hb).mono ?_
  rintro e w1 ⟨rfl, hb1⟩
  go_wp2_with fail
  go_ret
  exact ⟨rfl, hb1⟩

theorem r20Is_calls (b : Nat) (n : Int) (w : World) (hb : b < 256) :
    Calls Try.prog 28 #[.int .u8 (b : Int), .int .i64 n] w fun e w' => e = .returned (.bool (tb b n)) ∧ w = w' := by
  go_enter Try.func28, Try.ntmps28
  go_wp2_with fail
  refine (refBit_calls b n _ hb).mono ?_
  rintro e w1 ⟨rfl, rfl⟩
  go_wp2_with fail
  go_ret
  exact ⟨rfl, rfl⟩

theorem r20Result_calls (p v : Nat) (w : World) (hp : p < 256) (hv : v < 256) :
    Calls Try.prog 21 #[.int .u8 (p : Int), .int .u8 (v : Int)] w
      fun e w' => e = .returned (.int .u8 (fres p v : Nat)) ∧ Below w.heap.size w w' := by
  go_enter Try.func21, Try.ntmps21
  go_wp2_with fail
  refine (r20Set_calls p 7 _ _ hp).mono ?_
  rintro e w1 ⟨rfl, hb1⟩
  go_wp2_with fail
  refine (r20Set_calls _ 1 _ _ (wth_lt hp)).mono ?_
  rintro e w2 ⟨rfl, hb2⟩
  go_wp2_with fail
  go_ret
  exact ⟨ret_int (congrArg (Nat.cast (R := Int)) (res_eq p v hv)), hb1.trans (hb2.mono hb1.size)⟩

theorem r20Pushed_calls (p : Nat) (on : Bool) (w : World) (hp : p < 256) :
    Calls Try.prog 23 #[.int .u8 (p : Int), .bool on] w
      fun e w' => e = .returned (.int .u8 (fset (fset p 32 false) 16 on : Nat)) ∧ Below w.heap.size w w' := by
  go_enter Try.func23, Try.ntmps23
  go_wp2_with fail
  refine (r20Set_calls p 5 _ _ hp).mono ?_
  rintro e w1 ⟨rfl, hb1⟩
  go_wp2_with fail
  refine (r20Set_calls _ 4 _ _ (wth_lt hp)).mono ?_
  rintro e w2 ⟨rfl, hb2⟩
  go_wp2_with fail
  go_ret
  exact ⟨ret_int (congrArg (Nat.cast (R := Int)) (by rw [wth5, wth4])), hb1.trans (hb2.mono hb1.size)⟩

theorem r20Pulled_calls (p : Nat) (w : World) (hp : p < 256) :
    Calls Try.prog 25 #[.int .u8 (p : Int)] w
      fun e w' => e = .returned (.int .u8 (fset p 16 false : Nat)) ∧ Below w.heap.size w w' := by
  go_enter Try.func25, Try.ntmps25
  go_wp2_with fail
  refine (r20Set_calls p 4 _ _ hp).mono ?_
  rintro e w1 ⟨rfl, hb1⟩
  go_wp2_with fail
  go_ret
  exact ⟨ret_int (congrArg (Nat.cast (R := Int)) (by rw [wth4])), hb1⟩

theorem r20Entered_calls (p : Nat) (w : World) (hp : p < 256) :
    Calls Try.prog 27 #[.int .u8 (p : Int)] w
      fun e w' => e = .returned (.int .u8 (entered p : Nat)) ∧ Below w.heap.size w w' := by
  go_enter Try.func27, Try.ntmps27
  go_wp2_with fail
  refine (r20Set_calls p 2 _ _ hp).mono ?_
  rintro e w1 ⟨rfl, hb1⟩
  go_wp2_with fail
  refine (r20Set_calls _ 4 _ _ (wth_lt hp)).mono ?_
  rintro e w2 ⟨rfl, hb2⟩
  go_wp2_with fail
  refine (r20Set_calls _ 3 _ _ (wth_lt (wth_lt hp))).mono ?_
  rintro e w3 ⟨rfl, hb3⟩
  go_wp2_with fail
  refine (r20Set_calls _ 5 _ _ (wth_lt (wth_lt (wth_lt hp)))).mono ?_
  rintro e w4 ⟨rfl, hb4⟩
  have h1 := hb1.size
  have h2 := hb2.size
  have h3 := hb3.size
  go_wp2_with fail
  go_ret
  exact ⟨ret_int (congrArg (Nat.cast (R := Int)) (by rw [wth5, wth3, wth4, wth2]; rfl)), hb1.trans ((hb2.mono (by omega)).trans ((hb3.mono (by omega)).trans (hb4.mono (by omega))))⟩
end Go.Proofs.Ytondmoboikdogaa
