/-
  The texts Opc3, Opc4, Opc5, Mod1, Mod2 of the proof of TopSums, as one file (they are merged by a program).
-/
import Derived.Test.YtplobngbjpgcgaaGreatDoorA25
import Derived.Test.YtplobngbjpgcgaaGreatDoorA22
import Derived.Test.YtplobngbjpgcgaaGreatDoorA6
section
/-
  Package opcode: near, far, behind, cycles, Of.
-/
namespace Go.Proofs.YtplobngbjpgcgaaGreatDoor
set_option linter.unusedSimpArgs false
set_option linter.unusedVariables false
set_option maxRecDepth 10000
open Go.RowKit Go.Shelf Pl
def neaS (s : ByteArray) : Int := if s.size = 4 then 7 else if chgS s = true then 6 else 4
theorem neaS_calls (s : ByteArray) (w : World) (hs : s.size ≤ 4) : Calls Tryz.prog 88 #[.string s] w fun e w' => e = .returned (.int .i64 (neaS s)) ∧ w = w' := by
  have hc := fun W => chgS_calls s W
  unfold neaS
  by_cases h4 : s.size = 4
  · rw [if_pos h4]
    have i4 : ((s.size : Int) == 4) = true := by rw [beq_iff_eq]; omega
    clear hc h4 hs
    go_enter Tryz.func88, Tryz.ntmps88
    go_wp2_with fail
    go_ret
    exact ⟨rfl, rfl⟩
  · rw [if_neg h4]
    have i4 : ((s.size : Int) == 4) = false := by rw [beq_eq_false_iff_ne]; omega
    generalize chgS s = c at *
    clear h4 hs
    cases c
    all_goals
      go_enter Tryz.func88, Tryz.ntmps88
      go_wp2_with fail
      refine Cl.p (hc _) ?_
      go_wp2_with fail
      go_ret
      exact ⟨rfl, rfl⟩
def farS (s : ByteArray) : Int := if chgS s = true then 7 else if (s.toList == [74, 83, 82]) = true then 7 else if (s.toList == [74, 77, 80]) = true then 4 else 5
theorem farS_calls (s : ByteArray) (w : World) : Calls Tryz.prog 89 #[.string s] w fun e w' => e = .returned (.int .i64 (farS s)) ∧ w = w' := by
  have hc := fun W => chgS_calls s W
  unfold farS
  generalize chgS s = c at *
  cases h1 : (s.toList == [74, 83, 82]) <;> cases h2 : (s.toList == [74, 77, 80]) <;> cases c
  all_goals
    go_enter Tryz.func89, Tryz.ntmps89
    go_wp2_with fail
    refine Cl.p (hc _) ?_
    go_wp2_with fail
    go_ret
    exact ⟨rfl, rfl⟩
def behM (m : Nat) : Int := [0, 1, 1, 1, 1, 2, 2, 2, 1, 1, 1, 1, 2, 2, 2, 3, 3, 2, 2, 6].getD m 1
theorem behM_calls (m : Nat) (w : World) (hm : m < 20) : Calls Tryz.prog 47 #[.int .u8 (m : Int)] w fun e w' => e = .returned (.int .i64 (behM m)) ∧ w = w' := by
  have h : m = 0 ∨ m = 1 ∨ m = 2 ∨ m = 3 ∨ m = 4 ∨ m = 5 ∨ m = 6 ∨ m = 7 ∨ m = 8 ∨ m = 9 ∨ m = 10 ∨ m = 11 ∨ m = 12 ∨ m = 13 ∨ m = 14 ∨ m = 15 ∨ m = 16 ∨ m = 17 ∨ m = 18 ∨ m = 19 := by omega
  rcases h with rfl | rfl | rfl | rfl | rfl | rfl | rfl | rfl | rfl | rfl | rfl | rfl | rfl | rfl | rfl | rfl | rfl | rfl | rfl | rfl
  all_goals
    go_enter Tryz.func47, Tryz.ntmps47
    go_wp2_with fail
    go_ret
    exact ⟨rfl, rfl⟩
def cycM (s : ByteArray) (m : Nat) : Int := if m = 0 then impS s else if m = 1 then bytS s else if m < 5 then neaS s else if m < 8 then farS s else if m = 11 then braS s else if m = 12 then 6 else if m = 15 ∨ m = 16 then 8 else if m = 19 then 17 else 7
theorem cycM_calls (s : ByteArray) (m : Nat) (w : World) (hs : s.size ≤ 4) (hm : m < 20) : Calls Tryz.prog 48 #[.string s, .int .u8 (m : Int)] w fun e w' => e = .returned (.int .i64 (cycM s m)) ∧ w = w' := by
  have h0 := fun W => impS_calls s W
  have h1 := fun W => bytS_calls s W
  have h2 := fun W => neaS_calls s W hs
  have h3 := fun W => farS_calls s W
  have h4 := fun W => braS_calls s W
  have h : m = 0 ∨ m = 1 ∨ (m = 2 ∨ m = 3 ∨ m = 4) ∨ (m = 5 ∨ m = 6 ∨ m = 7) ∨ m = 11 ∨ m = 8 ∨ m = 9 ∨ m = 10 ∨ m = 12 ∨ m = 13 ∨ m = 14 ∨ m = 15 ∨ m = 16 ∨ m = 17 ∨ m = 18 ∨ m = 19 := by omega
  clear hm
  rcases h with rfl | rfl | (rfl | rfl | rfl) | (rfl | rfl | rfl) | rfl | rfl | rfl | rfl | rfl | rfl | rfl | rfl | rfl | rfl | rfl | rfl
  all_goals
    go_enter Tryz.func48, Tryz.ntmps48
    go_wp2_with fail
    first
      | (go_ret; exact ⟨rfl, rfl⟩)
      | (first | refine Cl.p (h0 _) ?_ | refine Cl.p (h1 _) ?_ | refine Cl.p (h2 _) ?_ | refine Cl.p (h3 _) ?_ | refine Cl.p (h4 _) ?_
         go_wp2_with fail
         go_ret
         exact ⟨rfl, rfl⟩)
end Go.Proofs.YtplobngbjpgcgaaGreatDoor
end
section
/-
  Package opcode: Of.
-/
namespace Go.Proofs.YtplobngbjpgcgaaGreatDoor
set_option linter.unusedSimpArgs false
set_option linter.unusedVariables false
set_option maxRecDepth 10000
open Go.RowKit Go.Shelf Pl
/-- The operations of a body's fourth part. -/
def ops4th (f : Func) : Array Oper := match f.body with | some (.seq _ (.seq _ (.seq _ (.seq (.region _ ops _) _)))) => ops | _ => #[]
/-- The text that a call is given first. -/
def argOf (o : Option Oper) : ByteArray := match o with | some o => (match o.op with | .call c => (match (c.args[0]? : Option Operand) with | some (Operand.const (Value.string s)) => s | _ => .empty) | _ => .empty) | none => .empty
/-- The letters of the modes, as they stand in the program. -/
noncomputable def lts : ByteArray := argOf (ops4th Tryz.f18)[1]?
/-- Where a byte's mode stands among them. -/
noncomputable def mdI (b : Nat) : Int := Lib.index lts.data.toList (mdB b).data.toList
theorem mdI_all : ∀ b, b < 256 → 0 ≤ mdI b ∧ mdI b < 40 := by decide +kernel
end Go.Proofs.YtplobngbjpgcgaaGreatDoor
end
section
/-
  Package opcode: Of, on.
-/
namespace Go.Proofs.YtplobngbjpgcgaaGreatDoor
set_option linter.unusedSimpArgs false
set_option linter.unusedVariables false
set_option maxRecDepth 10000
open Go.RowKit Go.Shelf Pl
def nameS (s : ByteArray) : ByteArray := if (s.toList == [45, 45, 45, 45]) = true then ⟨#[78, 79, 80]⟩ else s
/-- A byte's mode. -/
noncomputable def modeB (b : Nat) : Nat := (mdI b / 2).toNat
theorem modeB_lt (b : Nat) (hb : b < 256) : modeB b < 20 := by
  have := mdI_all b hb
  unfold modeB
  omega
/-- What a byte means. -/
noncomputable def opV (b : Nat) : Array Value := #[.string (nameS (nmB b)), .int .u8 (modeB b : Int), .int .i64 (1 + behM (modeB b)), .int .i64 (cycM (nameS (nmB b)) (modeB b))]
theorem behM_le (m : Nat) : 0 ≤ behM m ∧ behM m ≤ 6 := by
  unfold behM
  rcases (show m < 20 ∨ 20 ≤ m by omega) with h | h
  · have h : m = 0 ∨ m = 1 ∨ m = 2 ∨ m = 3 ∨ m = 4 ∨ m = 5 ∨ m = 6 ∨ m = 7 ∨ m = 8 ∨ m = 9 ∨ m = 10 ∨ m = 11 ∨ m = 12 ∨ m = 13 ∨ m = 14 ∨ m = 15 ∨ m = 16 ∨ m = 17 ∨ m = 18 ∨ m = 19 := by omega
    rcases h with rfl | rfl | rfl | rfl | rfl | rfl | rfl | rfl | rfl | rfl | rfl | rfl | rfl | rfl | rfl | rfl | rfl | rfl | rfl | rfl <;> decide
  · rw [List.getD_eq_getElem?_getD, List.getElem?_eq_none (by simpa using h)]
    decide
theorem nameS_le (s : ByteArray) (h : s.size ≤ 4) : (nameS s).size ≤ 4 := by
  unfold nameS
  split
  · decide
  · exact h
set_option maxHeartbeats 2000000 in
theorem opOf_calls (b : Nat) (M : Int) (w : World) (hb : b < 256) (hM : w.cell? ⟨0, 0, none⟩ = some (.int .i64 M)) :
    Calls Tryz.prog 18 #[.int .u8 (b : Int)] w fun e w' => e = .returned (.agg (opV b)) ∧ Below w.heap.size w w' := by
  have hpt := fun W => part_calls b W hb
  have hs4 := nmB_size b hb
  have hml := modeB_lt b hb
  have hI0 := mdI_all b hb
  have hmd : modeB b = (mdI b / 2).toNat := rfl
  have hI : Lib.index lts.data.toList (mdB b).data.toList = mdI b := rfl
  unfold opV
  generalize modeB b = q at *
  generalize mdI b = I at *
  generalize nmB b = s at *
  generalize mdB b = m at *
  have hn4 := nameS_le s hs4
  have hbe := behM_le q
  have hbc := fun W => behM_calls q W hml
  have hcy := fun W => cycM_calls (nameS s) q W hn4 hml
  have hq : (I.tdiv 2) = (q : Int) := by rw [Int.tdiv_eq_ediv_of_nonneg hI0.1]; omega
  have hM0 : (⟨0, 0, none⟩ : Addr).block < w.heap.size := cell_lt hM
  have hu : nameS s = if (s.toList == [45, 45, 45, 45]) = true then ⟨#[78, 79, 80]⟩ else s := rfl
  generalize nameS s = ns at *
  generalize behM q = bh at *
  generalize cycM ns q = cy at *
  have HI := hide hI
  clear hI hmd
  cases hx : (s.toList == [45, 45, 45, 45])
  case false =>
    rw [hx] at hu
    obtain rfl : ns = s := hu
    go_enter Tryz.func18, Tryz.ntmps18
    go_wp2_with fail
    refine Cl.m (hpt _) ?_
    intro w1 hb1
    go_wp2_with fail
    have hb01 : Below w.heap.size w w1 := (Bl.alloc (Below.refl _ _) _).trans (hb1.mono (by simp))
    have hz : Blk w1 w.heap.size 62 #[.string ⟨#[]⟩, .int .u8 0, .int .i64 0, .int .i64 0] := Blk.below (Blk.new w 62 _) hb1 (by simp)
    have hM1 : w1.cell? ⟨0, 0, none⟩ = some (.int .i64 M) := (hb01.cell (p := ⟨0, 0, none⟩) hM0).trans hM
    refine (Tryz.strings_Index _ m M w1 (by decide) hM1).mono ?_
    rintro e w2 ⟨rfl, rfl⟩
    generalize hJ : Lib.index _ _ = J
    have key : ∃ T, T = lts ∧ Lib.index T.data.toList m.data.toList = J := by
      refine ⟨_, ?_, hJ⟩
      kernel_rfl
    obtain ⟨T, rfl, hJ2⟩ := key
    obtain rfl : J = I := hJ2.symm.trans HI.out
    clear hJ hJ2
    go_wp2_with fail
    refine Cl.p (hbc _) ?_
    go_wp2_with fail
    refine Cl.p (hcy _) ?_
    go_wp2_with (refine wpList_store_row rfl 62 _ _ rfl w.heap.size #[.string ns, .int .u8 (q : Int), .int .i64 (1 + bh), .int .i64 cy] rfl rfl 62 _ hz (by kernel_rfl) rfl (by kernel_rfl) ?_)
    exact bodyPost_ret (results_cell_row rfl _ _ w.heap.size 62 #[.string ns, .int .u8 (q : Int), .int .i64 (1 + bh), .int .i64 cy] (0, 0) _ rfl (hz.setRow _) Tryz.underlying62 rfl (by kernel_rfl)) rfl ⟨rfl, hb01.trans (below_setRow (Below.refl _ _) (Nat.le_refl _) _)⟩
  case true =>
    rw [hx] at hu
    obtain rfl : ns = ⟨#[78, 79, 80]⟩ := hu
    go_enter Tryz.func18, Tryz.ntmps18
    go_wp2_with fail
    refine Cl.m (hpt _) ?_
    intro w1 hb1
    go_wp2_with fail
    have hb01 : Below w.heap.size w w1 := (Bl.alloc (Below.refl _ _) _).trans (hb1.mono (by simp))
    have hz : Blk w1 w.heap.size 62 #[.string ⟨#[]⟩, .int .u8 0, .int .i64 0, .int .i64 0] := Blk.below (Blk.new w 62 _) hb1 (by simp)
    have hM1 : w1.cell? ⟨0, 0, none⟩ = some (.int .i64 M) := (hb01.cell (p := ⟨0, 0, none⟩) hM0).trans hM
    refine (Tryz.strings_Index _ m M w1 (by decide) hM1).mono ?_
    rintro e w2 ⟨rfl, rfl⟩
    generalize hJ : Lib.index _ _ = J
    have key : ∃ T, T = lts ∧ Lib.index T.data.toList m.data.toList = J := by
      refine ⟨_, ?_, hJ⟩
      kernel_rfl
    obtain ⟨T, rfl, hJ2⟩ := key
    obtain rfl : J = I := hJ2.symm.trans HI.out
    clear hJ hJ2
    go_wp2_with fail
    refine Cl.p (hbc _) ?_
    go_wp2_with fail
    refine Cl.p (hcy _) ?_
    go_wp2_with (refine wpList_store_row rfl 62 _ _ rfl w.heap.size #[.string ⟨#[78, 79, 80]⟩, .int .u8 (q : Int), .int .i64 (1 + bh), .int .i64 cy] rfl rfl 62 _ hz (by kernel_rfl) rfl (by kernel_rfl) ?_)
    exact bodyPost_ret (results_cell_row rfl _ _ w.heap.size 62 #[.string ⟨#[78, 79, 80]⟩, .int .u8 (q : Int), .int .i64 (1 + bh), .int .i64 cy] (0, 0) _ rfl (hz.setRow _) Tryz.underlying62 rfl (by kernel_rfl)) rfl ⟨rfl, hb01.trans (below_setRow (Below.refl _ _) (Nat.le_refl _) _)⟩
end Go.Proofs.YtplobngbjpgcgaaGreatDoor
end
section
/-
  Package modes: place, address, word, join.
-/
namespace Go.Proofs.YtplobngbjpgcgaaGreatDoor
set_option linter.unusedSimpArgs false
set_option linter.unusedVariables false
set_option maxRecDepth 10000
open Go.RowKit Go.Shelf Pl
end Go.Proofs.YtplobngbjpgcgaaGreatDoor
end
section
/-
  Package modes: word, Behind, whole, Distance, Target.
-/
namespace Go.Proofs.YtplobngbjpgcgaaGreatDoor
set_option linter.unusedSimpArgs false
set_option linter.unusedVariables false
set_option maxRecDepth 10000
open Go.RowKit Go.Shelf Pl
/-- Bytes of a slice, by place. -/
def Byt (w : World) (b o n : Nat) (B : Nat → Nat) : Prop := ∀ i, i < n → w.cell? ⟨b, o + i, none⟩ = some (.int .u8 (B i : Int)) ∧ B i < 256
theorem Byt.low {w w' : World} {b o n : Nat} {B : Nat → Nat} (h : Byt w b o n B) (hb : Below w.heap.size w w') : Byt w' b o n B := fun i hi => ⟨(hb.cell (cell_lt (h i hi).1)).trans (h i hi).1, (h i hi).2⟩
theorem behindM_calls (m : Nat) (w : World) (hm : m < 20) : Calls Tryz.prog 197 #[.int .u8 (m : Int)] w fun e w' => e = .returned (.int .i64 (behM m)) ∧ w = w' := by
  have h : m = 0 ∨ m = 1 ∨ m = 2 ∨ m = 3 ∨ m = 4 ∨ m = 5 ∨ m = 6 ∨ m = 7 ∨ m = 8 ∨ m = 9 ∨ m = 10 ∨ m = 11 ∨ m = 12 ∨ m = 13 ∨ m = 14 ∨ m = 15 ∨ m = 16 ∨ m = 17 ∨ m = 18 ∨ m = 19 := by omega
  rcases h with rfl | rfl | rfl | rfl | rfl | rfl | rfl | rfl | rfl | rfl | rfl | rfl | rfl | rfl | rfl | rfl | rfl | rfl | rfl | rfl
  all_goals
    go_enter Tryz.func197, Tryz.ntmps197
    go_wp2_with fail
    go_ret
    exact ⟨rfl, rfl⟩
theorem whole_calls (m n c : Nat) (a : Option Addr) (w : World) (hm : m < 20) (hn : (n : Int) = behM m) : Calls Tryz.prog 182 #[.int .u8 (m : Int), .slice a n c] w fun e w' => e = .returned (.bool true) ∧ w = w' := by
  have hb := behindM_calls m w hm
  rw [← hn] at hb
  have i : ((n : Int) == (n : Int)) = true := beq_self_eq_true _
  clear hn
  go_enter Tryz.func182, Tryz.ntmps182
  go_wp2_with fail
  refine Cl.p hb ?_
  go_wp2_with fail
  go_ret
  exact ⟨rfl, rfl⟩
end Go.Proofs.YtplobngbjpgcgaaGreatDoor
end
