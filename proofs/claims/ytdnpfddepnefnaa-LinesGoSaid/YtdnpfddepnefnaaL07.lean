/-
  gannetlaw07: live, LinesAt, LinesCheck.
-/
import Derived.Test.YtdnpfddepnefnaaLn5
import Derived.Deep.RegionHeld3
namespace Go.Proofs.Ytdnpfddepnefnaa
open Go.RowKit

def livS (i : Nat) : Int := if i = 0 then 5 else 9
def livL (i : Nat) : Nat := if i = 2 then 1 else 2
def livU (i : Nat) : Bool := decide (i ≠ 1)
theorem liv_chk : chkV livS livL 3 = (0, 0) := by decide
theorem liv_ok : EdgOk 3 livS livL := by
  refine ⟨by omega, fun i hi => ?_⟩
  match i, hi with
  | 0, _ | 1, _ | 2, _ => decide
theorem liv_to5 : toE livS livL livU 5 (3 - 0) 0 false = (1, false) := by decide
theorem liv_to9 : toE livS livL livU 9 (3 - 1) 1 false = (3, true) := by decide
theorem liv_up : upK livL livU 2 1 = true := by decide
theorem liv_at4 : atE livS livL livU 2 4 3 0 false = false := by decide
theorem liv_at5 : atE livS livL livU 2 5 3 0 false = true := by decide
theorem liv_bad : chkV (fun _ => 0) (fun _ => 4) 1 = (8, 0) := by decide
theorem nilTo_calls (t : Int) (w : World) : Calls Try.prog 18 #[.pointer none, .int .i64 t] w fun e w' => (∃ v, e = .returned v) ∧ ∃ q, w' = w.drewN q := by
  go_enter Try.func18, Try.ntmps18
  go_wp2_with fail
  go_loopw [4, 5] (fun _ _ wr => wr = w) (fun _ _ wr => 0)
  case atStart => rfl
  case round =>
    subst hrel
    go_wp2_with fail
    refine (nilNext_calls _).mono ?_
    rintro e w1 ⟨rfl, nq, rfl⟩
    go_wp2_with fail
    (try simp only [Exit.inBlock, Exit.then])
    refine bodyPost_ret (results_none rfl _ _ _) rfl ?_
    exact ⟨⟨_, rfl⟩, _, rfl⟩
theorem chkE_nil {St : Nat → Int} {Ln : Nat → Nat} : ∀ m i, (chkE St Ln m i).1 = 0 → chkE St Ln m i = (0, 0)
  | 0, _, _ => rfl
  | m + 1, i, h => by
    unfold chkE at h ⊢
    by_cases e : wrE St Ln i ≠ 0
    · rw [if_pos e] at h; exact absurd h e
    · rw [if_neg e] at h ⊢; exact chkE_nil m (i + 1) h
theorem chkV_nil {St : Nat → Int} {Ln : Nat → Nat} {n : Nat} (h : (chkV St Ln n).1 = 0) : chkV St Ln n = (0, 0) ∧ n ≤ 1000 := by
  unfold chkV at h ⊢
  by_cases e : 1000 < n
  · rw [if_pos e] at h; exact absurd h (by decide)
  · rw [if_neg e] at h ⊢; exact ⟨chkE_nil n 0 h, by omega⟩
theorem chkV_ok {St : Nat → Int} {Ln : Nat → Nat} {n : Nat} (h : chkV St Ln n = (0, 0)) : EdgOk n St Ln := by
  have h1 : (chkV St Ln n).1 = 0 := by rw [h]
  have hn := (chkV_nil h1).2
  unfold chkV at h
  rw [if_neg (by omega)] at h
  have hz := chkE_zero (St := St) (Ln := Ln) n 0 (by rw [h])
  refine ⟨hn, fun i hi => ?_⟩
  have all : ∀ j, j < n → Ln j < 4 ∧ (if j = 0 then 0 else St (j - 1)) ≤ St j := fun j hj => by
    have hw := hz j (by omega) (by omega)
    unfold wrE at hw
    by_cases e1 : 4 ≤ Ln j
    · rw [if_pos e1] at hw; exact absurd hw (by decide)
    · rw [if_neg e1] at hw
      by_cases e2 : St j < (if j = 0 then 0 else St (j - 1)) ∨ limE < St j
      · rw [if_pos e2] at hw; exact absurd hw (by decide)
      · exact ⟨by omega, by omega⟩
  have pos : ∀ j, j < n → 0 ≤ St j := by
    intro j
    induction j with
    | zero => intro hj; have := (all 0 hj).2; rw [if_pos rfl] at this; exact this
    | succ j ih => intro hj; have := (all (j + 1) hj).2; rw [if_neg (by omega), Nat.add_sub_cancel] at this; have := ih (by omega); omega
  exact ⟨(all i hi).1, pos i hi, fun h0 => by have := (all i hi).2; rw [if_neg (by omega)] at this; exact this⟩
theorem fld_flt (a b : Value) (W : World) : (Instr.field 26 (.agg #[a, b]) 0).run Try.prog W = .ok a W := by kernel_rfl
/-- What stays in live's last statement. -/
def LK (w0 : World) (g bl : Nat) (o : Option Addr) (c : Nat) (w : World) : Prop := LB w g o 3 c 3 livL livU false ∧ EdgB w (some ⟨bl, 0, none⟩) 3 livS livL livU w0.heap.size ∧ Below w0.heap.size w0 w
set_option maxRecDepth 100000 in
set_option maxHeartbeats 4000000 in
theorem live07_calls (w : World) : Calls Try.prog 7 #[] w fun e w' => e = .returned (.bool true) ∧ Below w.heap.size w w' := by
  go_enter Try.func7, Try.ntmps7
  go_wp2_with fail
  have hA : Blk (w.alloc (.cells #[.int .i64 5, .int .u8 2, .bool true, .int .i64 9, .int .u8 2, .bool false, .int .i64 9, .int .u8 1, .bool true] 47)) w.heap.size 47 #[.int .i64 5, .int .u8 2, .bool true, .int .i64 9, .int .u8 2, .bool false, .int .i64 9, .int .u8 1, .bool true] := Blk.new _ _ _
  have hE1 : EdgB (w.alloc (.cells #[.int .i64 5, .int .u8 2, .bool true, .int .i64 9, .int .u8 2, .bool false, .int .i64 9, .int .u8 1, .bool true] 47)) (some ⟨w.heap.size, 0, none⟩) 3 livS livL livU (w.heap.size + 1) := fun i hi => by
    refine ⟨w.heap.size, 0, rfl, by omega, ?_⟩
    rw [hA.cell, hA.cell, hA.cell]
    match i, hi with
    | 0, _ | 1, _ | 2, _ => exact ⟨rfl, rfl, rfl⟩
  have hb1 : Below w.heap.size w (w.alloc (.cells #[.int .i64 5, .int .u8 2, .bool true, .int .i64 9, .int .u8 2, .bool false, .int .i64 9, .int .u8 1, .bool true] 47)) := (Below.refl _ _).alloc (Nat.le_refl _) _
  have hAl := hA.lt
  generalize w.alloc (.cells #[.int .i64 5, .int .u8 2, .bool true, .int .i64 9, .int .u8 2, .bool false, .int .i64 9, .int .u8 1, .bool true] 47) = w1 at *
  obtain ⟨B, hB⟩ : ∃ B, w.heap.size + 1 = B := ⟨_, rfl⟩
  rw [hB] at hE1
  have hw1 : B ≤ w1.heap.size := by omega
  have hs1 := hb1.size
  clear hA
  refine (lnNew_calls (some ⟨w.heap.size, 0, none⟩) 3 3 livS livL livU w1 (hE1.mono hw1) (by rw [liv_chk]) (by omega)).mono ?_
  rintro e w2 ⟨g, o', c', rfl, hL2, hG2, hg, hb2⟩
  have hE2 := hE1.below hb2 hw1
  have hb02 := hb1.trans (hb2.mono hb1.size)
  have hgl := hL2.lt
  have hz2 : Blk (w2.alloc (.cells #[.int .i64 0, .int .i64 0] 26)) w2.heap.size 26 #[.int .i64 0, .int .i64 0] := Blk.new _ _ _
  have hF3 : Blk (w2.alloc (.cells (fltA (0, 0)) 26)) w2.heap.size 26 (fltA (0, 0)) := Blk.new _ _ _
  have hL3 : LB (w2.alloc (.cells (fltA (0, 0)) 26)) g o' 3 c' 0 livL livU false := Blk.alloc hL2 _
  have hf3 : Only (fun _ => False) w2 (w2.alloc (.cells (fltA (0, 0)) 26)) := (Only.refl _ _).alloc _
  have hb03 : Below w.heap.size w (w2.alloc (.cells (fltA (0, 0)) 26)) := hb02.alloc hb02.size _
  have hs2 := hb02.size
  go_wp2_with (refine wpList_store_row rfl 26 _ _ rfl w2.heap.size _ rfl rfl 26 _ hz2 (by kernel_rfl) rfl (by kernel_rfl) ?_; rw [setRow_new])
  generalize w2.alloc (.cells (fltA (0, 0)) 26) = w3 at *
  have hG3 := hG2.only hf3 (fun _ _ e => e)
  have hE3 := hE2.only hf3 (fun _ _ e => e)
  have hs3 := hf3.size
  clear hz2 hL2 hG2 hE2 hE1
  go_wp2_with fail
  have hne : ∀ x, o' = some x → x.block ≠ g := fun x hx => by
    obtain ⟨b, off, ha, hlt, _⟩ := hG3 0 (by omega)
    rw [hx] at ha
    cases ha
    simp
    omega
  refine (lnTo_calls g o' 3 c' 0 livS livL livU false 5 _ liv_ok (by omega) hL3 (hG3.mono (by omega)) hne).mono ?_
  rintro e w4 ⟨⟨_, rfl⟩, hL4, ho4⟩
  rw [liv_to5] at hL4
  have hG4 := hG3.only1 ho4 hne
  have hE4 := hE3.only (S := fun j => j = g) ho4 (fun j hj e => by omega)
  have hF4 := hF3.only ho4 (by omega)
  have hb04 := hb03.trans (ho4.below hb03.size (fun j e => by omega))
  have hs4 := ho4.size
  clear hF3 hL3 hG3 hE3 hb03
  go_wp2_with fail
  have hu := lnUp_calls g o' 3 c' 1 2 livL livU _ _ hL4
  rw [liv_up] at hu
  refine Cl.p hu ?_
  go_wp2_with fail
  have hnx := lnNext_some g o' 3 c' 1 livS livL livU _ _ hL4 (hG4.mono (by omega)) (by omega)
  rw [show livS 1 = 9 from rfl] at hnx
  refine hnx.mono ?_
  rintro e w5 ⟨rfl, nq, rfl⟩
  have hL5 : LB (w4.drewN nq) g o' 3 c' 1 livL livU false := hL4
  have hG5 : EdgB (w4.drewN nq) o' 3 livS livL livU g := hG4
  have hE5 : EdgB (w4.drewN nq) (some ⟨w.heap.size, 0, none⟩) 3 livS livL livU B := hE4
  have hF5 : Blk (w4.drewN nq) w2.heap.size 26 (fltA (0, 0)) := hF4
  have hb05 : Below w.heap.size w (w4.drewN nq) := below_drewN hb04 nq
  have hs5 : w3.heap.size ≤ (w4.drewN nq).heap.size := hs4
  generalize w4.drewN nq = w5 at *
  clear hL4 hG4 hE4 hF4 hb04 hu hnx
  go_wp2_with fail
  refine (lnTo_calls g o' 3 c' 1 livS livL livU false 9 _ liv_ok (by omega) hL5 (hG5.mono (by omega)) hne).mono ?_
  rintro e w6 ⟨⟨_, rfl⟩, hL6, ho6⟩
  rw [liv_to9] at hL6
  have hE6 := hE5.only (S := fun j => j = g) ho6 (fun j hj e => by omega)
  have hF6 := hF5.only ho6 (by omega)
  have hb06 := hb05.trans (ho6.below hb05.size (fun j e => by omega))
  have hs6 := ho6.size
  clear hF5 hL5 hG5 hE5 hb05
  go_wp2_with fail
  refine Cl.p (lnRose_calls g o' 3 c' 3 livL livU true _ hL6) ?_
  go_wp2_with fail
  refine (lnTake_calls g o' 3 c' 3 livL livU true _ hL6).mono ?_
  rintro e w7 ⟨⟨_, rfl⟩, hL7, ho7⟩
  have hE7 := hE6.only (S := fun j => j = g) ho7 (fun j hj e => by omega)
  have hF7 := hF6.only ho7 (by omega)
  have hb07 := hb06.trans (ho7.below hb06.size (fun j e => by omega))
  have hs7 := ho7.size
  clear hF6 hL6 hE6 hb06
  go_wp2_with fail
  refine (nilTo_calls 1 _).mono ?_
  rintro e w8 ⟨⟨_, rfl⟩, n8, rfl⟩
  go_wp2_with fail
  refine (nilTake_calls _).mono ?_
  rintro e w9 ⟨⟨_, rfl⟩, rfl⟩
  have hL9 : LB (w7.drewN n8) g o' 3 c' 3 livL livU false := hL7
  have hE9 : EdgB (w7.drewN n8) (some ⟨w.heap.size, 0, none⟩) 3 livS livL livU B := hE7
  have hF9 : Blk (w7.drewN n8) w2.heap.size 26 (fltA (0, 0)) := hF7
  have hb09 : Below w.heap.size w (w7.drewN n8) := below_drewN hb07 n8
  have hs9 : w3.heap.size ≤ (w7.drewN n8).heap.size := by show w3.heap.size ≤ w7.heap.size; omega
  generalize w7.drewN n8 = w9 at *
  clear hF7 hL7 hE7 hb07
  have q0 : w9.cell? ⟨w2.heap.size, 0, none⟩ = some (.int .i64 0) := Blk.cell hF9 0
  have q1 : w9.cell? ⟨w2.heap.size, 1, none⟩ = some (.int .i64 0) := Blk.cell hF9 1
  go_wp2_with fail
  refine Cl.p (lnRose_calls g o' 3 c' 3 livL livU false _ hL9) ?_
  go_wp2_with fail
  refine Cl.p (lnSeen_calls g o' 3 c' 3 livL livU false _ hL9) ?_
  have ha4 := fun W h => lnAt_calls (some ⟨w.heap.size, 0, none⟩) 3 3 livS livL livU 2 4 W (by unfold maxLen; omega) h
  have ha5 := fun W h => lnAt_calls (some ⟨w.heap.size, 0, none⟩) 3 3 livS livL livU 2 5 W (by unfold maxLen; omega) h
  rw [liv_at4] at ha4
  rw [liv_at5] at ha5
  have hw9 : B ≤ w9.heap.size := by omega
  have hA4 := ha4 w9 (hE9.mono hw9)
  go_wp2_with fail
  refine Cl.m hA4 ?_
  intro wa hba
  have hEa := hE9.below hba hw9
  have hb0a := hb09.trans (hba.mono hb09.size)
  have hsa := hba.size
  have hA5 := ha5 wa (hEa.mono (by omega))
  go_wp2_with fail
  refine Cl.m hA5 ?_
  intro wb hbb
  have hb0b := hb0a.trans (hbb.mono hb0a.size)
  have hC : Blk (wb.alloc (.cells #[.int .i64 0, .int .u8 4, .bool false] 47)) wb.heap.size 47 #[.int .i64 0, .int .u8 4, .bool false] := Blk.new _ _ _
  have hCE : EdgB (wb.alloc (.cells #[.int .i64 0, .int .u8 4, .bool false] 47)) (some ⟨wb.heap.size, 0, none⟩) 1 (fun _ => 0) (fun _ => 4) (fun _ => false) (wb.alloc (.cells #[.int .i64 0, .int .u8 4, .bool false] 47)).heap.size := fun i hi => by
    obtain rfl : i = 0 := by omega
    exact ⟨wb.heap.size, 0, rfl, hC.lt, hC.cell 0, hC.cell 1, hC.cell 2⟩
  have hb0c : Below w.heap.size w (wb.alloc (.cells #[.int .i64 0, .int .u8 4, .bool false] 47)) := hb0b.alloc hb0b.size _
  have hck := lnCheck_calls (some ⟨wb.heap.size, 0, none⟩) 1 1 (fun _ => 0) (fun _ => 4) (fun _ => false) _ hCE
  rw [liv_bad] at hck
  have hck : Calls Try.prog 10 #[.slice (some ⟨wb.heap.size, 0, none⟩) 1 1] (wb.alloc (.cells #[.int .i64 0, .int .u8 4, .bool false] 47)) fun e w' => e = .returned (.agg #[.int .i64 8, .int .i64 0]) ∧ Below (wb.alloc (.cells #[.int .i64 0, .int .u8 4, .bool false] 47)).heap.size (wb.alloc (.cells #[.int .i64 0, .int .u8 4, .bool false] 47)) w' := hck
  have hfl := fld_flt
  go_wp2_with fail
  refine Cl.m hck ?_
  intro wd hbd
  have hb0d := hb0c.trans (hbd.mono hb0c.size)
  (go_wp2_with fail; refine Cl.p (nilUp_calls 0 _) ?_)
  (go_wp2_with fail; refine Cl.p (nilRose_calls _) ?_)
  (go_wp2_with fail; refine Cl.p (nilClone_calls _) ?_)
  (go_wp2_with fail; refine Cl.p (nilSeen_calls _) ?_)
  go_wp2_with fail
  go_ret
  exact ⟨rfl, hb0d⟩
set_option maxRecDepth 100000 in
theorem linesAt_calls (o : Option Addr) (n c : Nat) (St : Nat → Int) (Ln : Nat → Nat) (Up : Nat → Bool) (line : Nat) (stamp : Int) (w : World) (hn : n ≤ maxLen) (hE : EdgB w o n St Ln Up w.heap.size) :
    Calls Try.prog 4 #[.slice o n c, .int .u8 (line : Int), .int .i64 stamp] w fun e w' => e = .returned (.bool true) ∧ Below w.heap.size w w' := by
  have hbb : ∀ u : Bool, (u == u) = true := fun u => beq_self_eq_true u
  go_enter Try.func4, Try.ntmps4
  (go_wp2_with fail; refine Cl.m (live07_calls _) ?_; intro w1 hb1)
  go_wp2_with fail
  refine Cl.m (lnAt_calls o n c St Ln Up line stamp _ hn ((hE.below hb1 (Nat.le_refl _)).mono hb1.size)) ?_
  intro w2 hb2
  have hb02 := hb1.trans (hb2.mono hb1.size)
  go_wp2_with fail
  refine Cl.p (rlAt_calls o n c St Ln Up line stamp _ hn ((hE.below hb02 (Nat.le_refl _)).mono hb02.size)) ?_
  generalize atE St Ln Up line stamp n 0 false = u at *
  have hu := hbb u
  go_wp2_with fail
  go_ret
  exact ⟨rfl, hb02⟩
set_option maxRecDepth 100000 in
set_option maxHeartbeats 4000000 in
theorem linesCheck_calls (o : Option Addr) (n c : Nat) (St : Nat → Int) (Ln : Nat → Nat) (Up : Nat → Bool) (w : World) (hE : EdgB w o n St Ln Up w.heap.size) :
    Calls Try.prog 3 #[.slice o n c] w fun e w' => e = .returned (.bool true) ∧ Below w.heap.size w w' := by
  go_enter Try.func3, Try.ntmps3
  (go_wp2_with fail; refine Cl.m (live07_calls _) ?_; intro w1 hb1)
  go_wp2_with fail
  refine Cl.m (rlCheck_calls o n c St Ln Up _ ((hE.below hb1 (Nat.le_refl _)).mono hb1.size)) ?_
  intro w2 hb2
  have hb02 := hb1.trans (hb2.mono hb1.size)
  obtain ⟨p, hp⟩ : ∃ p, chkV St Ln n = p := ⟨_, rfl⟩
  obtain ⟨p1, p2⟩ := p
  rw [hp]
  have hz : Blk (w2.alloc (.cells #[.int .i64 0, .int .i64 0] 26)) w2.heap.size 26 #[.int .i64 0, .int .i64 0] := Blk.new _ _ _
  have hF : Blk (w2.alloc (.cells (fltA (p1, p2)) 26)) w2.heap.size 26 (fltA (p1, p2)) := Blk.new _ _ _
  have hb03 : Below w.heap.size w (w2.alloc (.cells (fltA (p1, p2)) 26)) := hb02.alloc hb02.size _
  have hs2 := hb02.size
  go_wp2_with (refine wpList_store_row rfl 26 _ _ rfl w2.heap.size _ rfl rfl 26 _ hz (by kernel_rfl) rfl (by kernel_rfl) ?_; rw [setRow_new])
  generalize w2.alloc (.cells (fltA (p1, p2)) 26) = w3 at *
  have hE3 : EdgB w3 o n St Ln Up w3.heap.size := (hE.below hb03 (Nat.le_refl _)).mono hb03.size
  have hFl := hF.lt
  by_cases h0 : p1 = 0
  · have hnl := chkV_nil (St := St) (Ln := Ln) (n := n) (by rw [hp]; exact h0)
    rw [hnl.1] at hp
    cases hp
    refine (lnNew_calls o n c St Ln Up w3 hE3 (by rw [hnl.1]) hnl.2).mono ?_
    rintro e w4 ⟨g, o', c', rfl, hL4, _, _, hb4⟩
    have hF4 := hF.below hb4 hFl
    have hb04 := hb03.trans (hb4.mono hb03.size)
    have hs4 := hb4.size
    have hz4 : Blk (w4.alloc (.cells #[.int .i64 0, .int .i64 0] 26)) w4.heap.size 26 #[.int .i64 0, .int .i64 0] := Blk.new _ _ _
    have hG5 : Blk (w4.alloc (.cells (fltA (0, 0)) 26)) w4.heap.size 26 (fltA (0, 0)) := Blk.new _ _ _
    have hF5 : Blk (w4.alloc (.cells (fltA (0, 0)) 26)) w2.heap.size 26 (fltA (0, 0)) := hF4.alloc _
    have hb05 : Below w.heap.size w (w4.alloc (.cells (fltA (0, 0)) 26)) := hb04.alloc hb04.size _
    go_wp2_with (refine wpList_store_row rfl 26 _ _ rfl w4.heap.size _ rfl rfl 26 _ hz4 (by kernel_rfl) rfl (by kernel_rfl) ?_; rw [setRow_new])
    generalize w4.alloc (.cells (fltA (0, 0)) 26) = w5 at *
    have hE5 : EdgB w5.drew o n St Ln Up w5.drew.heap.size := (hE.below hb05.drew (Nat.le_refl _)).mono hb05.size
    have hck := lnCheck_calls o n c St Ln Up w5.drew hE5
    rw [hnl.1] at hck
    have hck : Calls Try.prog 10 #[.slice o n c] w5.drew fun e w' => e = .returned (.agg #[.int .i64 0, .int .i64 0]) ∧ Below w5.drew.heap.size w5.drew w' := hck
    have hb05d : Below w.heap.size w w5.drew := hb05.drew
    have q0 : w5.drew.cell? ⟨w2.heap.size, 0, none⟩ = some (.int .i64 0) := Blk.cell hF5 0
    have q1 : w5.drew.cell? ⟨w2.heap.size, 1, none⟩ = some (.int .i64 0) := Blk.cell hF5 1
    have q2 : w5.drew.cell? ⟨w4.heap.size, 0, none⟩ = some (.int .i64 0) := Blk.cell hG5 0
    have q3 : w5.drew.cell? ⟨w4.heap.size, 1, none⟩ = some (.int .i64 0) := Blk.cell hG5 1
    have hFl5 := hF5.lt
    have hGl5 := hG5.lt
    go_region_held3 (fun w' => w'.cell? ⟨w2.heap.size, 0, none⟩ = some (.int .i64 0) ∧ w'.cell? ⟨w2.heap.size, 1, none⟩ = some (.int .i64 0) ∧ w'.cell? ⟨w4.heap.size, 0, none⟩ = some (.int .i64 0) ∧ w'.cell? ⟨w4.heap.size, 1, none⟩ = some (.int .i64 0) ∧ Below w.heap.size w w')
      (first | exact ⟨q0, q1, q2, q3, hb05d⟩ | exact ⟨r0, r1, r2, r3, hb06⟩)
      (first
      | (go_at_call 10; refine Cl.m hck ?_; intro w6 hb6; have r0 := (hb6.cell (p := ⟨w2.heap.size, 0, none⟩) hFl5).trans q0; have r1 := (hb6.cell (p := ⟨w2.heap.size, 1, none⟩) hFl5).trans q1; have r2 := (hb6.cell (p := ⟨w4.heap.size, 0, none⟩) hGl5).trans q2; have r3 := (hb6.cell (p := ⟨w4.heap.size, 1, none⟩) hGl5).trans q3; have hb06 : Below w.heap.size w w6 := hb05d.trans (hb6.mono hb05d.size)))
    all_goals
      go_wp2_with fail
      go_ret
      exact ⟨rfl, hb06⟩
  · have hnb := lnNew_bad o n c St Ln Up w3 hE3 (by rw [hp]; exact h0)
    rw [hp] at hnb
    refine Cl.m hnb ?_
    intro w4 hb4
    have z1 : ((p1 : Int) == (p1 : Int)) = true := beq_self_eq_true _
    have z2 : ((p2 : Int) == (p2 : Int)) = true := beq_self_eq_true _
    have z3 : ((p1 : Int) != 0) = true := by rw [bne_iff_ne]; omega
    have hF4 := hF.below hb4 hFl
    have hb04 := hb03.trans (hb4.mono hb03.size)
    have hs4 := hb4.size
    have hz4 : Blk (w4.alloc (.cells #[.int .i64 0, .int .i64 0] 26)) w4.heap.size 26 #[.int .i64 0, .int .i64 0] := Blk.new _ _ _
    have hG5 : Blk (w4.alloc (.cells (fltA (p1, p2)) 26)) w4.heap.size 26 (fltA (p1, p2)) := Blk.new _ _ _
    have hF5 : Blk (w4.alloc (.cells (fltA (p1, p2)) 26)) w2.heap.size 26 (fltA (p1, p2)) := hF4.alloc _
    have hb05 : Below w.heap.size w (w4.alloc (.cells (fltA (p1, p2)) 26)) := hb04.alloc hb04.size _
    go_wp2_with (refine wpList_store_row rfl 26 _ _ rfl w4.heap.size _ rfl rfl 26 _ hz4 (by kernel_rfl) rfl (by kernel_rfl) ?_; rw [setRow_new])
    generalize w4.alloc (.cells (fltA (p1, p2)) 26) = w5 at *
    have hE5 : EdgB w5.drew o n St Ln Up w5.drew.heap.size := (hE.below hb05.drew (Nat.le_refl _)).mono hb05.size
    have hck := lnCheck_calls o n c St Ln Up w5.drew hE5
    rw [hp] at hck
    have hck : Calls Try.prog 10 #[.slice o n c] w5.drew fun e w' => e = .returned (.agg #[.int .i64 (p1 : Int), .int .i64 (p2 : Int)]) ∧ Below w5.drew.heap.size w5.drew w' := hck
    have hb05d : Below w.heap.size w w5.drew := hb05.drew
    have q0 : w5.drew.cell? ⟨w2.heap.size, 0, none⟩ = some (.int .i64 (p1 : Int)) := Blk.cell hF5 0
    have q1 : w5.drew.cell? ⟨w2.heap.size, 1, none⟩ = some (.int .i64 (p2 : Int)) := Blk.cell hF5 1
    have q2 : w5.drew.cell? ⟨w4.heap.size, 0, none⟩ = some (.int .i64 (p1 : Int)) := Blk.cell hG5 0
    have q3 : w5.drew.cell? ⟨w4.heap.size, 1, none⟩ = some (.int .i64 (p2 : Int)) := Blk.cell hG5 1
    have hFl5 := hF5.lt
    have hGl5 := hG5.lt
    go_region_held3 (fun w' => w'.cell? ⟨w2.heap.size, 0, none⟩ = some (.int .i64 (p1 : Int)) ∧ w'.cell? ⟨w2.heap.size, 1, none⟩ = some (.int .i64 (p2 : Int)) ∧ w'.cell? ⟨w4.heap.size, 0, none⟩ = some (.int .i64 (p1 : Int)) ∧ w'.cell? ⟨w4.heap.size, 1, none⟩ = some (.int .i64 (p2 : Int)) ∧ Below w.heap.size w w')
      (first | exact ⟨q0, q1, q2, q3, hb05d⟩ | exact ⟨r0, r1, r2, r3, hb06⟩)
      (first
      | (go_at_call 10; refine Cl.m hck ?_; intro w6 hb6; have r0 := (hb6.cell (p := ⟨w2.heap.size, 0, none⟩) hFl5).trans q0; have r1 := (hb6.cell (p := ⟨w2.heap.size, 1, none⟩) hFl5).trans q1; have r2 := (hb6.cell (p := ⟨w4.heap.size, 0, none⟩) hGl5).trans q2; have r3 := (hb6.cell (p := ⟨w4.heap.size, 1, none⟩) hGl5).trans q3; have hb06 : Below w.heap.size w w6 := hb05d.trans (hb6.mono hb05d.size)))
    all_goals
      go_wp2_with fail
      go_ret
      exact ⟨rfl, hb06⟩
end Go.Proofs.Ytdnpfddepnefnaa
