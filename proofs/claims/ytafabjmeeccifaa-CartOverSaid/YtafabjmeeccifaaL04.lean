/-
  gannetlaw04: live.
-/
import Derived.Test.YtafabjmeeccifaaCart7
import Derived.Test.YtafabjmeeccifaaCart9
namespace Go.Proofs.Ytafabjmeeccifaa
open Go.RowKit Pl

def laF : Nat → Int := mkF (fun _ => 0) (fun _ => 1) (fun _ _ => 5) 1
def laB : Nat → Int := prg 0 1 (fun _ => 234) (fun _ => 57344) 5
theorem laF_0 : laF 0 = 5 := by decide
theorem laF_ne (j : Nat) (h : 0 < j) : laF j = 0 := by
  show layF (fun _ => 0) (0 : Int).toNat 1 (fun _ => 5) j = 0
  unfold layF
  have : (0 : Int).toNat = 0 := rfl
  rw [this, if_neg (by omega)]
theorem laF_runs : runsP laF 8192 = [(0, 1)] := by
  have h1 : runsP laF 1 = [(0, 1)] := by
    have := runs_run (F := laF) (f := 0) (Or.inl rfl) 0 (fun j h1 h2 => by
      obtain rfl : j = 0 := by omega
      rw [laF_0]; decide)
    exact this
  have h2 := runs_zero (F := laF) (i := 1) 8191 (fun j h1 h2 => laF_ne j (by omega))
  exact h2.trans h1
theorem laB_0 : laB 0 = 234 := by decide
theorem laB_90 : laB 8190 = 0 := by decide
theorem laB_91 : laB 8191 = 224 := by decide
theorem rd_0 : rdR 8192 laB 0 = 234 := (rdR_low 8192 laB 0 (by omega) (by omega)).trans laB_0
theorem rd_8192 : rdR 8192 laB 8192 = 255 := by
  unfold rdR
  rw [if_neg (by omega)]
/-- What stays in live's last statement. -/
def P04 (w0 : World) (fv ga pb po g2 : Nat) (o : Option Addr) (c : Nat) (w : World) : Prop :=
  w.cell? ⟨fv, 0, none⟩ = some (.int .i64 0) ∧ RW w ga 8192 laF ∧ w.cell? ⟨pb, po, none⟩ = some (.int .i64 0) ∧ w.cell? ⟨pb, po + 1, none⟩ = some (.slice o 1 c) ∧ RW w g2 8192 laB ∧ Below w0.heap.size w0 w
section
variable {w0 : World} {fv ga pb po g2 : Nat} {o : Option Addr} {c : Nat} {w w' : World}
theorem P04.below (p : P04 w0 fv ga pb po g2 o c w) (hb : Below w.heap.size w w') : P04 w0 fv ga pb po g2 o c w' := by
  obtain ⟨h1, h2, h3, h4, h5, h6⟩ := p
  exact ⟨(hb.cell (p := ⟨fv, 0, none⟩) (cell_lt h1)).trans h1, Blk.below h2 hb h2.lt, (hb.cell (p := ⟨pb, po, none⟩) (cell_lt h3)).trans h3, (hb.cell (p := ⟨pb, po + 1, none⟩) (cell_lt h4)).trans h4, Blk.below h5 hb h5.lt, h6.trans (hb.mono h6.size)⟩
theorem P04.cells (p : P04 w0 fv ga pb po g2 o c w) : (w.cell? ⟨fv, 0, none⟩ = some (.int .i64 0) ∧ w.cell? ⟨ga, 0, none⟩ = some (.int .u8 5) ∧ w.cell? ⟨pb, po, none⟩ = some (.int .i64 0) ∧ w.cell? ⟨pb, po + 1, none⟩ = some (.slice o 1 c) ∧ w.cell? ⟨g2, 0, none⟩ = some (.int .u8 234) ∧ w.cell? ⟨g2, 8191, none⟩ = some (.int .u8 224)) ∧ P04 w0 fv ga pb po g2 o c w :=
  ⟨⟨p.1, (p.2.1.cell 0 (by omega)).trans (by rw [laF_0]), p.2.2.1, p.2.2.2.1, (p.2.2.2.2.1.cell 0 (by omega)).trans (by rw [laB_0]), (p.2.2.2.2.1.cell 8191 (by omega)).trans (by rw [laB_91])⟩, p⟩
theorem rd04a (p : P04 w0 fv ga pb po g2 o c w) : Calls Try.prog 19 #[.slice (some ⟨g2, 0, none⟩) 8192 8192, .int .u32 0] w fun e w' => e = .returned (.int .u8 234) ∧ P04 w0 fv ga pb po g2 o c w' := by
  have h := ctRead_calls 8192 8192 0 (some ⟨g2, 0, none⟩) laB w (by omega) (by omega) p.2.2.2.2.1.nums
  rw [rd_0] at h
  exact h.mono fun e w' ⟨h1, h2⟩ => ⟨h1, p.below h2⟩
theorem rd04b (p : P04 w0 fv ga pb po g2 o c w) : Calls Try.prog 19 #[.slice (some ⟨g2, 0, none⟩) 8192 8192, .int .u32 8192] w fun e w' => e = .returned (.int .u8 255) ∧ P04 w0 fv ga pb po g2 o c w' := by
  have h := ctRead_calls 8192 8192 8192 (some ⟨g2, 0, none⟩) laB w (by omega) (by omega) p.2.2.2.2.1.nums
  rw [rd_8192] at h
  exact h.mono fun e w' ⟨h1, h2⟩ => ⟨h1, p.below h2⟩
theorem wd04 (p : P04 w0 fv ga pb po g2 o c w) : Calls Try.prog 18 #[.slice (some ⟨g2, 0, none⟩) 8192 8192, .int .u16 65534] w fun e w' => e = .returned (.int .u16 57344) ∧ P04 w0 fv ga pb po g2 o c w' := by
  have h := ctWord_calls 8192 8192 65534 0 224 (some ⟨g2, 0, none⟩) laB w (by omega) (by omega) (by omega) (by rw [show 65534 % 8192 = 8190 from rfl, laB_90]; rfl) (by rw [show (65534 + 1) % 8192 = 8191 from rfl, laB_91]; rfl) (by omega) (by omega) p.2.2.2.2.1.nums
  exact h.mono fun e w' ⟨h1, h2⟩ => ⟨h1, p.below h2⟩
theorem ck04a (p : P04 w0 fv ga pb po g2 o c w) : Calls Try.prog 20 #[.slice (some ⟨g2, 0, none⟩) 8192 8192] w fun e w' => e = .returned (.int .i64 0) ∧ P04 w0 fv ga pb po g2 o c w' :=
  (ctCheck_ok 8192 8192 _ w ⟨by omega, by omega, by omega⟩).mono fun e w' ⟨h1, h2⟩ => ⟨h1, h2 ▸ p⟩
theorem ck04b (p : P04 w0 fv ga pb po g2 o c w) : Calls Try.prog 20 #[.slice none 0 0] w fun e w' => e = .returned (.int .i64 6) ∧ P04 w0 fv ga pb po g2 o c w' :=
  (ctCheck_bad 0 0 _ w (by decide) (fun h => by have := h.1; omega)).mono fun e w' ⟨h1, h2⟩ => ⟨h1, h2 ▸ p⟩
end
set_option maxRecDepth 100000 in
set_option maxHeartbeats 4000000 in
theorem live04_calls (w : World) : Calls Try.prog 7 #[] w fun e w' => e = .returned (.bool true) ∧ Below w.heap.size w w' := by
  have hb2 : Below w.heap.size w ((w.alloc (.cells #[.int .u8 5] 5)).alloc (.cells #[.int .i64 0, .slice (some ⟨w.heap.size, 0, none⟩) 1 1] 46)) := Bl.alloc (Bl.alloc (Below.refl _ _) _) _
  have hB0 : Blk ((w.alloc (.cells #[.int .u8 5] 5)).alloc (.cells #[.int .i64 0, .slice (some ⟨w.heap.size, 0, none⟩) 1 1] 46)) w.heap.size 5 #[.int .u8 5] := Blk.alloc (Blk.new _ _ _) _
  have hB1 : Blk ((w.alloc (.cells #[.int .u8 5] 5)).alloc (.cells #[.int .i64 0, .slice (some ⟨w.heap.size, 0, none⟩) 1 1] 46)) (w.heap.size + 1) 46 #[.int .i64 0, .slice (some ⟨w.heap.size, 0, none⟩) 1 1] := Blk.newAt (by simp)
  go_enter Try.func7, Try.ntmps7
  go_wp2_with fail
  generalize (w.alloc (.cells #[.int .u8 5] 5)).alloc (.cells #[.int .i64 0, .slice (some ⟨w.heap.size, 0, none⟩) 1 1] 46) = w2 at *
  have hP : PieB w2 (some ⟨w.heap.size + 1, 0, none⟩) 1 (fun _ => 0) (fun _ => some ⟨w.heap.size, 0, none⟩) (fun _ => 1) (fun _ => 1) (fun _ _ => 5) w2.heap.size := fun i hi => by
    obtain rfl : i = 0 := by omega
    refine ⟨_, 0, rfl, hB1.lt, hB1.cell 0, hB1.cell 1, fun j hj => ?_⟩
    have hj : j < 1 := hj
    obtain rfl : j = 0 := by omega
    exact ⟨_, 0, rfl, hB0.lt, hB0.cell 0⟩
  refine (mk_walk 1 8192 _ 1 1 _ _ _ _ _ w2 (by omega) rfl (by decide) hP).mono ?_
  rintro e w3 ⟨hb3, ⟨i, hi, _, hnf, _⟩ | ⟨_, ga, rfl, hR3, hga⟩⟩
  · exact absurd (show Fits 8192 0 1 from by unfold Fits; omega) hnf
  have hR3 : RW w3 ga 8192 laF := hR3
  have hb03 := hb2.trans (hb3.mono hb2.size)
  have hz : Blk (w3.alloc (.cells #[.int .i64 0, .int .i64 0] 28)) w3.heap.size 28 #[.int .i64 0, .int .i64 0] := Blk.new _ _ _
  have hF4 : Blk (w3.alloc (.cells (fltA (0, 0)) 28)) w3.heap.size 28 (fltA (0, 0)) := Blk.new _ _ _
  have hR4 : RW (w3.alloc (.cells (fltA (0, 0)) 28)) ga 8192 laF := Blk.alloc hR3 _
  have hb04 : Below w.heap.size w (w3.alloc (.cells (fltA (0, 0)) 28)) := hb03.alloc hb03.size _
  clear hP hB0 hB1 hb2 hb3
  go_wp2_with (refine wpList_store_row rfl 28 _ _ rfl w3.heap.size _ rfl rfl 28 _ hz (by kernel_rfl) rfl (by kernel_rfl) ?_; rw [setRow_new])
  generalize w3.alloc (.cells (fltA (0, 0)) 28) = w4 at *
  obtain ⟨fv, hfv⟩ : ∃ fv, w3.heap.size = fv := ⟨_, rfl⟩
  rw [hfv] at hF4 ⊢
  refine (ctPieces_ok 8192 8192 (some ⟨ga, 0, none⟩) laF w4 ⟨by omega, by omega, by omega⟩ (Nat.le_refl _) (by decide) hR4.nums).mono ?_
  rintro e w5 ⟨v, rfl, hP5, hb5⟩
  rw [laF_runs] at hP5
  obtain ⟨a, cv, O, Cp, rfl, hQ5⟩ := hP5.pieces
  obtain ⟨pb, po, rfl, hpb, q0, q1, _⟩ := hQ5 0 (by decide)
  have hb05 := hb04.trans (hb5.mono hb04.size)
  have hR5 := Blk.below hR4 hb5 hR4.lt
  have hF5 := hF4.below hb5 hF4.lt
  clear hP5 hQ5 hR4 hF4 hz
  go_wp2_with fail
  have hB6 : Blk (w5.alloc (.cells #[.int .u8 234] 5)) w5.heap.size 5 #[.int .u8 234] := Blk.new _ _ _
  have hb6 : Below w5.heap.size w5 (w5.alloc (.cells #[.int .u8 234] 5)) := (Below.refl _ _).alloc (Nat.le_refl _) _
  have hN6 : NumsAt (w5.alloc (.cells #[.int .u8 234] 5)) .u8 (some ⟨w5.heap.size, 0, none⟩) 1 (fun _ => 234) := fun j hj => by
    obtain rfl : j = 0 := by omega
    exact ⟨_, 0, rfl, hB6.lt, hB6.cell 0⟩
  have hpg := ctProgram_calls 0 1 1 (some ⟨w5.heap.size, 0, none⟩) (fun _ => 234) (fun _ => 57344) (w5.alloc (.cells #[.int .u8 234] 5)) (by omega) (by decide) (fun _ _ => by omega) hN6 (by omega)
  refine hpg.mono ?_
  rintro e w7 ⟨g2, rfl, hR7, hg2, hb7⟩
  have hR7 : RW w7 g2 8192 laB := hR7
  have hb57 : Below w5.heap.size w5 w7 := hb6.trans (hb7.mono hb6.size)
  have hP7 : P04 w fv ga pb po g2 (O 0) (Cp 0) w7 := ⟨(hF5.below hb57 hF5.lt).cell 0, Blk.below hR5 hb57 hR5.lt, (hb57.cell (p := ⟨pb, po, none⟩) hpb).trans q0, (hb57.cell (p := ⟨pb, po + 1, none⟩) hpb).trans q1, hR7, hb05.trans (hb57.mono hb05.size)⟩
  generalize O 0 = oo at *
  generalize Cp 0 = cc at *
  clear hpg hR7 hb7 hB6 hb6 hN6 hR5 hF5 q0 q1 hb05 hb57 hb5 hR3 hb03 hb04
  obtain ⟨⟨c0, c1, c2, c3, c4, c5⟩, _⟩ := P04.cells hP7
  go_wp2_with fail
  refine (rd04a hP7).mono ?_
  rintro e wa ⟨rfl, hPa⟩
  go_wp2_with fail
  refine (rd04b hPa).mono ?_
  rintro e wb ⟨rfl, hPb⟩
  go_wp2_with fail
  refine (wd04 hPb).mono ?_
  rintro e wc ⟨rfl, hPc⟩
  go_wp2_with fail
  refine (ck04a hPc).mono ?_
  rintro e wd ⟨rfl, hPd⟩
  go_wp2_with fail
  refine (ck04b hPd).mono ?_
  rintro e we ⟨rfl, hPe⟩
  go_wp2_with fail
  go_ret
  exact ⟨rfl, hPe.2.2.2.2.2⟩
end Go.Proofs.Ytafabjmeeccifaa
