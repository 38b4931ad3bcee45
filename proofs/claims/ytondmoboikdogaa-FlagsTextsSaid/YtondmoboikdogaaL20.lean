/-
  gannetlaw20: live, and the walks of the laws.
-/
import Derived.Test.YtondmoboikdogaaFread
import Derived.Test.YtondmoboikdogaaOpen
import Derived.Test.YtondmoboikdogaaBparts
namespace Go.Proofs.Ytondmoboikdogaa
open Go.RowKit Pl

theorem live20_calls (w : World) : Calls Try.prog 6 #[] w fun e w' => e = .returned (.bool true) ∧ Below w.heap.size w w' := by
  have l1 : fset 32 32 false = 0 := by decide
  have l2 : fis 32 32 = true := by decide
  have l3 : rd [78, 46, 46, 46, 46, 46, 46, 67] = some 129 := rd_some _ 129 (by decide) (by decide)
  have l4 : txt 129 = [78, 46, 46, 46, 46, 46, 46, 67] := by decide
  have l5 : fres 0 128 = 128 := by decide
  have l6 : fset (fset 32 32 false) 16 true = 16 := by decide
  have l7 : ∀ w : World, (Instr.field 24 (.agg (bools (flagsOf 1))) 7).run Try.prog w = .ok (.bool true) w := fun w => by kernel_rfl
  have l8 : fis 4 4 = true := by decide
  have l9 : fset 0 8 true = 8 := by decide
  have l10 : fset 48 16 false = 32 := by decide
  have l11 : entered 40 = 4 := by decide
  have l12 : (fis 2 2 == true) = true := by decide
  go_enter Try.func6, Try.ntmps6
  go_wp2_with fail
  refine (flBegun_calls 32 _ (by omega)).mono ?_
  rintro e w1 ⟨rfl, rfl⟩
  rw [l1, l2]
  go_wp2_with fail
  refine (flRead_calls _ _ (by decide)).mono ?_
  rintro e w1 ⟨rfl, hb1⟩
  rw [show (ByteArray.mk #[78, 46, 46, 46, 46, 46, 46, 67]).toList = [78, 46, 46, 46, 46, 46, 46, 67] from ByteArray.toList_mk _, l3]
  unfold errOf
  go_wp2_with fail
  refine (flText_calls 129 _ (by omega)).mono ?_
  rintro e w2 ⟨rfl, hb2⟩
  rw [l4]
  go_wp2_with fail
  refine (flResult_calls 0 128 _ (by omega) (by omega)).mono ?_
  rintro e w' ⟨rfl, rfl⟩
  rw [l5]
  go_wp2_with fail
  refine (flPushed_calls 32 true _ (by omega)).mono ?_
  rintro e w3 ⟨rfl, hb3⟩
  rw [l6]
  go_wp2_with fail
  refine (flOf_calls 1 _ (by omega)).mono ?_
  rintro e w4 ⟨rfl, hb4⟩
  go_wp2_with fail
  refine (flByte_calls (fun i => i == 0) _).mono ?_
  rintro e w5 ⟨rfl, hb5⟩
  rw [show ofB (fun i => 7 - i == 0) = 128 from by decide]
  go_wp2_with fail
  refine (flIs_calls 4 4 _ (by omega) (by omega)).mono ?_
  rintro e w' ⟨rfl, rfl⟩
  rw [l8]
  go_wp2_with fail
  refine (flSet_calls 0 8 true _ (by omega) (by omega)).mono ?_
  rintro e w' ⟨rfl, rfl⟩
  rw [l9]
  go_wp2_with fail
  refine (flPulled_calls 48 _ (by omega)).mono ?_
  rintro e w' ⟨rfl, rfl⟩
  rw [l10]
  go_wp2_with fail
  refine (flEntered_calls 40 _ (by omega)).mono ?_
  rintro e w6 ⟨rfl, hb6⟩
  rw [l11]
  go_wp2_with fail
  refine (flGoes_calls 2 2 true _ (by omega) (by omega)).mono ?_
  rintro e w' ⟨rfl, rfl⟩
  rw [l12]
  have s1 := hb1.size
  have s2 := hb2.size
  have s3 := hb3.size
  have s4 := hb4.size
  have s5 := hb5.size
  go_wp2_with fail
  go_ret
  exact ⟨rfl, hb1.trans ((hb2.mono (by omega)).trans ((hb3.mono (by omega)).trans ((hb4.mono (by omega)).trans ((hb5.mono (by omega)).trans (hb6.mono (by omega))))))⟩

theorem flagsMoves_calls (p v : Nat) (on : Bool) (w : World) (hp : p < 256) (hv : v < 256) :
    Calls Try.prog 5 #[.int .u8 (p : Int), .int .u8 (v : Int), .bool on] w fun e w' => e = .returned (.bool true) ∧ Below w.heap.size w w' := by
  have h1 : fset (fset p 32 false) 16 on < 256 := fset_lt (fset_lt hp (by omega)) (by omega)
  have h2 : wth p 5 false < 256 := wth_lt hp
  go_enter Try.func5, Try.ntmps5
  go_wp2_with fail
  refine (live20_calls _).mono ?_
  rintro e w1 ⟨rfl, hb1⟩
  go_wp2_with fail
  refine (flBegun_calls p _ hp).mono ?_
  rintro e w' ⟨rfl, rfl⟩
  go_wp2_with fail
  refine (flResult_calls p v _ hp hv).mono ?_
  rintro e w' ⟨rfl, rfl⟩
  go_wp2_with fail
  refine (r20Result_calls p v _ hp hv).mono ?_
  rintro e w2 ⟨rfl, hb2⟩
  go_wp2_with fail
  refine (flPushed_calls p on _ hp).mono ?_
  rintro e w3 ⟨rfl, hb3⟩
  go_wp2_with fail
  refine (r20Pushed_calls p on _ hp).mono ?_
  rintro e w4 ⟨rfl, hb4⟩
  go_wp2_with fail
  refine (flPulled_calls p _ hp).mono ?_
  rintro e w' ⟨rfl, rfl⟩
  go_wp2_with fail
  refine (r20Pulled_calls p _ hp).mono ?_
  rintro e w5 ⟨rfl, hb5⟩
  go_wp2_with fail
  refine (flEntered_calls p _ hp).mono ?_
  rintro e w6 ⟨rfl, hb6⟩
  go_wp2_with fail
  refine (r20Entered_calls p _ hp).mono ?_
  rintro e w7 ⟨rfl, hb7⟩
  go_wp2_with fail
  refine (flPushed_calls p on _ hp).mono ?_
  rintro e w8 ⟨rfl, hb8⟩
  go_wp2_with fail
  refine (flPulled_calls _ _ h1).mono ?_
  rintro e w' ⟨rfl, rfl⟩
  rw [back_eq p on hp]
  go_wp2_with fail
  refine (r20Set_calls p 5 false _ hp).mono ?_
  rintro e w9 ⟨rfl, hb9⟩
  rw [wth5]
  go_wp2_with fail
  refine (r20Is_calls p 5 _ hp).mono ?_
  rintro e w' ⟨rfl, rfl⟩
  rw [show tb p 5 = fis p 32 from (fis_tb p 5 (by omega)).symm]
  go_wp2_with fail
  refine (r20Set_calls p 5 false _ hp).mono ?_
  rintro e w10 ⟨rfl, hb10⟩
  go_wp2_with fail
  refine (r20Set_calls _ 4 false _ h2).mono ?_
  rintro e w11 ⟨rfl, hb11⟩
  rw [wth5, wth4]
  have s1 := hb1.size
  have s2 := hb2.size
  have s3 := hb3.size
  have s4 := hb4.size
  have s5 := hb5.size
  have s6 := hb6.size
  have s7 := hb7.size
  have s8 := hb8.size
  have s9 := hb9.size
  have s10 := hb10.size
  go_wp2_with fail
  go_ret
  exact ⟨rfl, hb1.trans ((hb2.mono (by omega)).trans ((hb3.mono (by omega)).trans ((hb4.mono (by omega)).trans ((hb5.mono (by omega)).trans ((hb6.mono (by omega)).trans ((hb7.mono (by omega)).trans ((hb8.mono (by omega)).trans ((hb9.mono (by omega)).trans ((hb10.mono (by omega)).trans (hb11.mono (by omega)))))))))))⟩

theorem flagsTexts_calls (p : Nat) (s : ByteArray) (w : World) (hp : p < 256) (hs : s.size ≤ maxLen) :
    Calls Try.prog 4 #[.int .u8 (p : Int), .string s] w fun e w' => e = .returned (.bool true) ∧ Below w.heap.size w w' := by
  have l3 : rd (txt p) = some p := rd_some _ p hp rfl
  have hsz : (ByteArray.mk (txt p).toArray).size ≤ maxLen := by
    show (txt p).toArray.size ≤ maxLen
    simp [txt_len, maxLen]
  go_enter Try.func4, Try.ntmps4
  go_wp2_with fail
  refine (live20_calls _).mono ?_
  rintro e w1 ⟨rfl, hb1⟩
  go_wp2_with fail
  refine (flText_calls p _ hp).mono ?_
  rintro e w2 ⟨rfl, hb2⟩
  go_wp2_with fail
  refine (flRead_calls _ _ hsz).mono ?_
  rintro e w3 ⟨rfl, hb3⟩
  rw [ByteArray.toList_mk, l3]
  unfold errOf
  go_wp2_with fail
  refine (flRead_calls s _ hs).mono ?_
  rintro e w4 ⟨rfl, hb4⟩
  have s1 := hb1.size
  have s2 := hb2.size
  have s3 := hb3.size
  have hall : Below w.heap.size w w4 := hb1.trans ((hb2.mono (by omega)).trans ((hb3.mono (by omega)).trans (hb4.mono (by omega))))
  cases hr : rd s.toList
  · unfold errOf
    go_wp2_with fail
    refine (r20Read_calls s _).mono ?_
    rintro e w' ⟨rfl, rfl⟩
    rw [hr]
    unfold errOf
    clear hr
    go_wp2_with fail
    refine (r20Text_calls p _ hp).mono ?_
    rintro e w' ⟨rfl, rfl⟩
    go_wp2_with fail
    go_ret
    exact ⟨rfl, hall⟩
  · rename_i q
    unfold errOf
    go_wp2_with fail
    refine (r20Read_calls s _).mono ?_
    rintro e w' ⟨rfl, rfl⟩
    rw [hr]
    unfold errOf
    clear hr
    go_wp2_with fail
    refine (r20Text_calls p _ hp).mono ?_
    rintro e w' ⟨rfl, rfl⟩
    go_wp2_with fail
    go_ret
    exact ⟨rfl, hall⟩

theorem flagsParts_calls (p m : Nat) (on : Bool) (w : World) (hp : p < 256) (hm : m < 256) :
    Calls Try.prog 3 #[.int .u8 (p : Int), .int .u8 (m : Int), .bool on] w fun e w' => e = .returned (.bool true) ∧ Below w.heap.size w w' := by
  have hgd : Try.prog.eqGuardType Try.prog.depth 24 = false := by kernel_rfl
  have hneq : ∀ w, (binOp .neq 24 (.agg (bools (flagsOf p))) (.agg #[.bool (bitsOf p 7), .bool (bitsOf p 6), .bool (bitsOf p 5), .bool (bitsOf p 4), .bool (bitsOf p 3), .bool (bitsOf p 2), .bool (bitsOf p 1), .bool (bitsOf p 0)])).run Try.prog w = .ok (.bool false) w := by
    intro w
    have h := run_neq_flags (flagsOf p) (fun i => bitsOf p (7 - i)) w
    rw [show ((List.range 8).all fun i => flagsOf p i == bitsOf p (7 - i)) = true from by
      rw [List.all_eq_true]
      intro i hi
      have hi' : i < 8 := by simpa using hi
      have := flagsOf_tb p (7 - i) (by omega)
      rw [show 7 - (7 - i) = i from by omega] at this
      rw [this]
      unfold bitsOf
      simp] at h
    exact h
  have hg0 := bools_get (bitsOf p) 0 (by omega)
  have hg1 := bools_get (bitsOf p) 1 (by omega)
  have hg2 := bools_get (bitsOf p) 2 (by omega)
  have hg3 := bools_get (bitsOf p) 3 (by omega)
  have hg4 := bools_get (bitsOf p) 4 (by omega)
  have hg5 := bools_get (bitsOf p) 5 (by omega)
  have hg6 := bools_get (bitsOf p) 6 (by omega)
  have hg7 := bools_get (bitsOf p) 7 (by omega)
  go_enter Try.func3, Try.ntmps3
  go_wp2_with fail
  refine (live20_calls _).mono ?_
  rintro e w1 ⟨rfl, hb1⟩
  go_wp2_with fail
  refine (flOf_calls p _ hp).mono ?_
  rintro e w2 ⟨rfl, hb2⟩
  have hz : Blk (w2.alloc (.cells (bools fun _ => false) 24)) w2.heap.size 24 (bools fun _ => false) := Blk.new _ _ _
  go_wp2_with (refine wpList_store_row rfl 24 _ _ rfl w2.heap.size (bools (flagsOf p)) rfl rfl 24 _ hz (by kernel_rfl) rfl (by kernel_rfl) ?_; rw [setRow_new])
  refine (refBits_calls p _ hp).mono ?_
  rintro e w3 ⟨rfl, hb3⟩
  have hblkF : Blk w3 w2.heap.size 24 (bools (flagsOf p)) := (Blk.new w2 24 (bools (flagsOf p))).below hb3 (by simp)
  have hz : Blk (w3.alloc (.cells (bools fun _ => false) 26)) w3.heap.size 26 (bools fun _ => false) := Blk.new _ _ _
  have hlt3 : w2.heap.size < w3.heap.size := hblkF.lt
  have hcF0 : w3.cell? ⟨w2.heap.size, 0, none⟩ = some (.bool (flagsOf p 0)) := (hblkF.cell 0).trans (bools_get _ 0 (by omega))
  have hcF1 : w3.cell? ⟨w2.heap.size, 1, none⟩ = some (.bool (flagsOf p 1)) := (hblkF.cell 1).trans (bools_get _ 1 (by omega))
  have hcF2 : w3.cell? ⟨w2.heap.size, 2, none⟩ = some (.bool (flagsOf p 2)) := (hblkF.cell 2).trans (bools_get _ 2 (by omega))
  have hcF3 : w3.cell? ⟨w2.heap.size, 3, none⟩ = some (.bool (flagsOf p 3)) := (hblkF.cell 3).trans (bools_get _ 3 (by omega))
  have hcF4 : w3.cell? ⟨w2.heap.size, 4, none⟩ = some (.bool (flagsOf p 4)) := (hblkF.cell 4).trans (bools_get _ 4 (by omega))
  have hcF5 : w3.cell? ⟨w2.heap.size, 5, none⟩ = some (.bool (flagsOf p 5)) := (hblkF.cell 5).trans (bools_get _ 5 (by omega))
  have hcF6 : w3.cell? ⟨w2.heap.size, 6, none⟩ = some (.bool (flagsOf p 6)) := (hblkF.cell 6).trans (bools_get _ 6 (by omega))
  have hcF7 : w3.cell? ⟨w2.heap.size, 7, none⟩ = some (.bool (flagsOf p 7)) := (hblkF.cell 7).trans (bools_get _ 7 (by omega))
  go_wp2_with (first
    | (refine wpList_store_row rfl 26 _ _ rfl w3.heap.size (bools (bitsOf p)) rfl rfl 26 _ hz (by kernel_rfl) rfl (by kernel_rfl) ?_; rw [setRow_new])
    | (refine wpList_load_row rfl 24 _ rfl w2.heap.size rfl 24 _ (0, 0) _ (hblkF.alloc _) Try.underlying24 rfl (by kernel_rfl) ?_))
  refine (flByte_calls (flagsOf p) _).mono ?_
  rintro e w4 ⟨rfl, hb4⟩
  rw [flags_back p hp]
  have hblkB : Blk w4 w3.heap.size 26 (bools (bitsOf p)) := (Blk.new w3 26 (bools (bitsOf p))).below hb4 (by simp)
  have hbelow4 : Below w.heap.size w w4 := by
    have s1 := hb1.size
    have s2 := hb2.size
    have h3 : Below w.heap.size w w3 := (hb1.trans (hb2.mono s1)).trans (((Below.refl w.heap.size w2).alloc (by omega) (.cells (bools (flagsOf p)) 24)).trans (hb3.mono (by simp; omega)))
    exact h3.trans (((Below.refl w.heap.size w3).alloc (by omega) (.cells (bools (bitsOf p)) 26)).trans (hb4.mono (by simp; omega)))
  clear hcF0 hcF1 hcF2 hcF3 hcF4 hcF5 hcF6 hcF7 hneq hg0 hg1 hg2 hg3 hg4 hg5 hg6 hg7 hblkF hz
  go_wp2_with fail
  go_loopw [9, 10, 11] (fun x y i wr => ∃ k : Nat, k ≤ 8 ∧ x = .int .u8 (wantK p m on k : Nat) ∧ y = .bool (someK p m k) ∧ i = .int .i64 (k : Int) ∧ Below w4.heap.size w4 wr) (fun _ _ i _ => 8 - (intOf i).toNat)
  case atStart => exact ⟨0, Nat.zero_le _, rfl, rfl, rfl, Below.refl _ _⟩
  case round =>
    obtain ⟨k, hk, rfl, rfl, rfl, hbel⟩ := hrel
    by_cases hlt : k < 8
    · have hlt' : (k : Int) < 8 := by omega
      have hw := wantK_lt p m on hp k
      cases hb : tb m (k : Int)
      · have hw2 : wantK p m on (k + 1) = wantK p m on k := by rw [wantK, if_neg (by rw [hb]; simp)]
        have hs2 : someK p m (k + 1) = someK p m k := by rw [someK, if_neg (by rw [hb]; simp)]
        have Hw2 := hide hw2
        have Hs2 := hide hs2
        clear hw2 hs2
        go_wp2_with (go_at_call 10; refine (refBit_calls _ _ _ (by assumption)).mono ?_; rintro e w' ⟨rfl, rfl⟩)
        go_roundw
        case rel => exact ⟨k + 1, by omega, by rw [Hw2.out], by rw [Hs2.out], by go_num, hbel⟩
        case measure => simp [intOf]; omega
      · have hw2 : wantK p m on (k + 1) = wth (wantK p m on k) (k : Int) on := by rw [wantK, if_pos hb]
        have hs2 : someK p m (k + 1) = (someK p m k || tb p (k : Int)) := by rw [someK, if_pos hb]
        have Hw2 := hide hw2
        have Hs2 := hide hs2
        clear hw2 hs2
        go_wp2_with fail
        refine (refBit_calls m k _ hm).mono ?_
        rintro e w' ⟨rfl, rfl⟩
        rw [hb]
        go_wp2_with fail
        refine (r20Set_calls (wantK p m on k) k on _ hw).mono ?_
        rintro e w5 ⟨rfl, hb5⟩
        have hcB : w5.cell? ⟨w3.heap.size, k, none⟩ = some (.bool (tb p (k : Int))) := by
          rw [hb5.cell (p := ⟨w3.heap.size, k, none⟩) (by have := hblkB.lt; have := hbel.size; simp; omega), hbel.cell (p := ⟨w3.heap.size, k, none⟩) hblkB.lt, hblkB.cell k, bools_get _ k hlt]
          rfl
        have hbel5 := hbel.trans (hb5.mono hbel.size)
        cases hso : someK p m k
        · have Hso := hide hso; clear hso hb
          go_wp2_with fail
          go_roundw
          case rel => exact ⟨k + 1, by omega, by rw [Hw2.out], by rw [Hs2.out, Hso.out]; simp, by go_num, hbel5⟩
          case measure => simp [intOf]; omega
        · have Hso := hide hso; clear hso hb
          go_wp2_with fail
          go_roundw
          case rel => exact ⟨k + 1, by omega, by rw [Hw2.out], by rw [Hs2.out, Hso.out]; simp, by go_num, hbel5⟩
          case measure => simp [intOf]; omega
    · obtain rfl : k = 8 := by omega
      rw [wantK_all p m on hp hm, someK_all p m hm]
      go_wp2_with fail
      refine (flSet_calls p m on _ hp hm).mono ?_
      rintro e w' ⟨rfl, rfl⟩
      go_wp2_with fail
      refine (flIs_calls p m _ hp hm).mono ?_
      rintro e w' ⟨rfl, rfl⟩
      go_wp2_with fail
      refine (flGoes_calls p m on _ hp hm).mono ?_
      rintro e w' ⟨rfl, rfl⟩
      go_wp2_with fail
      go_ret
      exact ⟨rfl, hbelow4.trans (hbel.mono hbelow4.size)⟩

section
open Go.ChangeShapes Go.WideShapes Go.ChangeAt
variable {H : Type} {enc : TypeId × Value → H} {W : World} {base : Nat} {v0 v1 v2 : Value} {d0 d1 d2 : DataW H} {p0 p1 p2 : List MemPlace}
theorem walk_FlagsParts (_hsh : W.ShapedOpen Try.prog) (_hsz : (DataW.weightsEach Try.prog [5, 5, 4] [d0, d1, d2]).all (· ≤ reachBytes) = true)
    (hv0 : Value.okWide Try.prog W .any base 5 v0) (hd0 : DataW.Trod enc Try.prog W 0 (fun _ => true) true 5 v0 d0 p0) (hv1 : Value.okWide Try.prog W .any base 5 v1) (hd1 : DataW.Trod enc Try.prog W 0 (fun _ => true) true 5 v1 d1 p1) (hv2 : Value.okWide Try.prog W .any base 4 v2) (hd2 : DataW.Trod enc Try.prog W 0 (fun _ => true) true 4 v2 d2 p2) :
    Calls Try.prog 3 #[v0, v1, v2] W fun e W' => e = .returned (.bool true) ∧ Below W.heap.size W W' := by
  obtain ⟨x0, rfl, h0⟩ := open_u8 Try.underlying5 hv0 hd0
  obtain ⟨x1, rfl, h1⟩ := open_u8 Try.underlying5 hv1 hd1
  obtain ⟨x2, rfl⟩ := open_yes Try.underlying4 hv2 hd2
  exact flagsParts_calls x0 x1 x2 W h0 h1
theorem walk_FlagsMoves (_hsh : W.ShapedOpen Try.prog) (_hsz : (DataW.weightsEach Try.prog [5, 5, 4] [d0, d1, d2]).all (· ≤ reachBytes) = true)
    (hv0 : Value.okWide Try.prog W .any base 5 v0) (hd0 : DataW.Trod enc Try.prog W 0 (fun _ => true) true 5 v0 d0 p0) (hv1 : Value.okWide Try.prog W .any base 5 v1) (hd1 : DataW.Trod enc Try.prog W 0 (fun _ => true) true 5 v1 d1 p1) (hv2 : Value.okWide Try.prog W .any base 4 v2) (hd2 : DataW.Trod enc Try.prog W 0 (fun _ => true) true 4 v2 d2 p2) :
    Calls Try.prog 5 #[v0, v1, v2] W fun e W' => e = .returned (.bool true) ∧ Below W.heap.size W W' := by
  obtain ⟨x0, rfl, h0⟩ := open_u8 Try.underlying5 hv0 hd0
  obtain ⟨x1, rfl, h1⟩ := open_u8 Try.underlying5 hv1 hd1
  obtain ⟨x2, rfl⟩ := open_yes Try.underlying4 hv2 hd2
  exact flagsMoves_calls x0 x1 x2 W h0 h1
theorem walk_FlagsTexts (_hsh : W.ShapedOpen Try.prog) (_hsz : (DataW.weightsEach Try.prog [5, 9] [d0, d1]).all (· ≤ reachBytes) = true)
    (hv0 : Value.okWide Try.prog W .any base 5 v0) (hd0 : DataW.Trod enc Try.prog W 0 (fun _ => true) true 5 v0 d0 p0) (hv1 : Value.okWide Try.prog W .any base 9 v1) (hd1 : DataW.Trod enc Try.prog W 0 (fun _ => true) true 9 v1 d1 p1) :
    Calls Try.prog 4 #[v0, v1] W fun e W' => e = .returned (.bool true) ∧ Below W.heap.size W W' := by
  obtain ⟨x0, rfl, h0⟩ := open_u8 Try.underlying5 hv0 hd0
  obtain ⟨s, rfl, h1⟩ := open_str Try.underlying9 hv1 hd1
  exact flagsTexts_calls x0 s W h0 h1
end
end Go.Proofs.Ytondmoboikdogaa
