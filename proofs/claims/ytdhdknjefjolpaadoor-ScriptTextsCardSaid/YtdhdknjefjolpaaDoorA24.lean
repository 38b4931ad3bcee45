/-
  The texts Sc55 of the proofs about scripts, as one file (they are merged by a program).
-/
import Derived.Test.YtdhdknjefjolpaaDoorA21
import Derived.Test.YtdhdknjefjolpaaDoorA16
section
/-
  gannetlaw33: ScriptTexts.
-/
namespace Go.Proofs.YtdhdknjefjolpaaDoor
set_option linter.unusedSimpArgs false
set_option linter.unusedVariables false
set_option maxRecDepth 10000
open Go.RowKit Go.Shelf Pl
/-- Too large a script: true at once. -/
def Big (n l0 l1 l2 ne : Nat) : Prop := 20000 < n ∨ 200 < ne ∨ 300 < l0 ∨ 300 < l1 ∨ 300 < l2
set_option maxRecDepth 100000 in
set_option maxHeartbeats 16000000 in
theorem texts_big (o o0 o1 o2 oe : Option Addr) (n c l0 c0 l1 c1 l2 c2 ne ce : Nat) (bud : Int) (M : Int) (w : World) (hM : w.cell? ⟨0, 0, none⟩ = some (.int .i64 M)) (h : Big n l0 l1 l2 ne) :
    Calls Tryd.prog 5 #[.agg #[Value.slice o n c, Value.slice o0 l0 c0, Value.slice o1 l1 c1, Value.slice o2 l2 c2, Value.slice oe ne ce, Value.int .i64 bud]] w fun e w' => e = .returned (.bool true) ∧ Below w.heap.size w w' := by
  have hX : Blk (w.alloc (.cells #[Value.slice o n c, Value.slice o0 l0 c0, Value.slice o1 l1 c1, Value.slice o2 l2 c2, Value.slice oe ne ce, Value.int .i64 bud] 27)) w.heap.size 27 #[Value.slice o n c, Value.slice o0 l0 c0, Value.slice o1 l1 c1, Value.slice o2 l2 c2, Value.slice oe ne ce, Value.int .i64 bud] := Blk.new _ _ _
  have hb1 : Below w.heap.size w (w.alloc (.cells #[Value.slice o n c, Value.slice o0 l0 c0, Value.slice o1 l1 c1, Value.slice o2 l2 c2, Value.slice oe ne ce, Value.int .i64 bud] 27)) := Bl.alloc (Below.refl _ _) _
  have hM1 := (hb1.cell (p := ⟨0, 0, none⟩) (cell_lt hM)).trans hM
  have hlv := live33_calls M _ hM1
  have HX := hide hX
  have HB1 := hide hb1
  clear hX hb1 hM1 hM
  have key : ∀ (b0 b1 b2 b3 b4 : Bool), decide ((20000 : Int) < (n : Int)) = b0 → decide ((200 : Int) < (ne : Int)) = b1 → decide ((300 : Int) < (l0 : Int)) = b2 → decide ((300 : Int) < (l1 : Int)) = b3 → decide ((300 : Int) < (l2 : Int)) = b4 → (b0 || b1 || b2 || b3 || b4) = true → Calls Tryd.prog 5 #[.agg #[Value.slice o n c, Value.slice o0 l0 c0, Value.slice o1 l1 c1, Value.slice o2 l2 c2, Value.slice oe ne ce, Value.int .i64 bud]] w fun e w' => e = .returned (.bool true) ∧ Below w.heap.size w w' := by
    intro b0 b1 b2 b3 b4 e0 e1 e2 e3 e4 hor
    clear h
    have t0 : decide (20000 < n) = b0 := by rw [← e0]; exact decide_eq_decide.2 (by omega)
    have t1 : decide (200 < ne) = b1 := by rw [← e1]; exact decide_eq_decide.2 (by omega)
    have t2 : decide (300 < l0) = b2 := by rw [← e2]; exact decide_eq_decide.2 (by omega)
    have t3 : decide (300 < l1) = b3 := by rw [← e3]; exact decide_eq_decide.2 (by omega)
    have t4 : decide (300 < l2) = b4 := by rw [← e4]; exact decide_eq_decide.2 (by omega)
    go_enter Tryd.func5, Tryd.ntmps5
    go_wp2_with fail
    with_reducible refine hlv.mono ?_
    clear hlv
    rintro e w2 ⟨rfl, hb2⟩
    have hX2 : Blk w2 w.heap.size 27 #[Value.slice o n c, Value.slice o0 l0 c0, Value.slice o1 l1 c1, Value.slice o2 l2 c2, Value.slice oe ne ce, Value.int .i64 bud] := HX.out.below hb2 HX.out.lt
    have c0 : w2.cell? ⟨w.heap.size, 0, none⟩ = some (.slice o n c) := hX2.cell 0
    have c1 : w2.cell? ⟨w.heap.size, 1, none⟩ = some (.slice o0 l0 _) := hX2.cell 1
    have c2 : w2.cell? ⟨w.heap.size, 2, none⟩ = some (.slice o1 l1 _) := hX2.cell 2
    have c3 : w2.cell? ⟨w.heap.size, 3, none⟩ = some (.slice o2 l2 _) := hX2.cell 3
    have c4 : w2.cell? ⟨w.heap.size, 4, none⟩ = some (.slice oe ne ce) := hX2.cell 4
    have hB := HB1.out.trans (hb2.mono HB1.out.size)
    clear hX2 hb2 HX HB1
    cases b0 <;> cases b1 <;> cases b2 <;> cases b3 <;> cases b4 <;> first | (exact absurd hor (by decide)) | (go_wp2_with fail; go_ret; exact ⟨rfl, hB⟩)
  refine key _ _ _ _ _ rfl rfl rfl rfl rfl ?_
  unfold Big at h
  simp only [Bool.or_eq_true, decide_eq_true_eq]
  omega
/-- A script that may not be. -/
theorem texts_bad (o o0 o1 o2 oe : Option Addr) (n c l0 c0 l1 c1 l2 c2 ne ce : Nat) (bud : Int) (F F0 F1 F2 : Nat → Nat) (St : Nat → Int) (Ln : Nat → Nat) (Up : Nat → Bool) (M : Int) (w : World) (hM : w.cell? ⟨0, 0, none⟩ = some (.int .i64 M)) (h : ScrIn w o o0 o1 o2 oe n c l0 c0 l1 c1 l2 c2 ne ce F F0 F1 F2 St Ln Up) (hb : ¬ Big n l0 l1 l2 ne) (hbad : (chkS n l0 l1 l2 ne St Ln bud).1 ≠ 0) :
    Calls Tryd.prog 5 #[.agg #[Value.slice o n c, Value.slice o0 l0 c0, Value.slice o1 l1 c1, Value.slice o2 l2 c2, Value.slice oe ne ce, Value.int .i64 bud]] w fun e w' => e = .returned (.bool true) ∧ Below w.heap.size w w' := by
  have hX : Blk (w.alloc (.cells #[Value.slice o n c, Value.slice o0 l0 c0, Value.slice o1 l1 c1, Value.slice o2 l2 c2, Value.slice oe ne ce, Value.int .i64 bud] 27)) w.heap.size 27 #[Value.slice o n c, Value.slice o0 l0 c0, Value.slice o1 l1 c1, Value.slice o2 l2 c2, Value.slice oe ne ce, Value.int .i64 bud] := Blk.new _ _ _
  have hb1 : Below w.heap.size w (w.alloc (.cells #[Value.slice o n c, Value.slice o0 l0 c0, Value.slice o1 l1 c1, Value.slice o2 l2 c2, Value.slice oe ne ce, Value.int .i64 bud] 27)) := Bl.alloc (Below.refl _ _) _
  have hM1 := (hb1.cell (p := ⟨0, 0, none⟩) (cell_lt hM)).trans hM
  have hlv := live33_calls M _ hM1
  have HX := hide hX
  have HB1 := hide hb1
  unfold Big at hb
  have e0 : decide ((20000 : Int) < (n : Int)) = false := decide_eq_false (by omega)
  have e1 : decide ((200 : Int) < (ne : Int)) = false := decide_eq_false (by omega)
  have e2 : decide ((300 : Int) < (l0 : Int)) = false := decide_eq_false (by omega)
  have e3 : decide ((300 : Int) < (l1 : Int)) = false := decide_eq_false (by omega)
  have e4 : decide ((300 : Int) < (l2 : Int)) = false := decide_eq_false (by omega)
  have t0 : decide (20000 < n) = false := decide_eq_false (by omega)
  have t1 : decide (200 < ne) = false := decide_eq_false (by omega)
  have t2 : decide (300 < l0) = false := decide_eq_false (by omega)
  have t3 : decide (300 < l1) = false := decide_eq_false (by omega)
  have t4 : decide (300 < l2) = false := decide_eq_false (by omega)
  have hnm : n ≤ maxLen := by unfold maxLen; omega
  have ht := fun W (hE : EdgB W oe ne St Ln Up W.heap.size) => text_bad o o0 o1 o2 oe n c l0 c0 l1 c1 l2 c2 ne ce bud St Ln Up W hnm hE hbad
  have hr := fun W (hE : EdgB W oe ne St Ln Up W.heap.size) => rsCheck_calls o o0 o1 o2 oe n c l0 c0 l1 c1 l2 c2 ne ce bud St Ln Up W hnm hE
  obtain ⟨R, hR⟩ : ∃ R, chkS n l0 l1 l2 ne St Ln bud = R := ⟨_, rfl⟩
  rw [hR] at ht hr hbad
  have ht : ∀ W, EdgB W oe ne St Ln Up W.heap.size → Calls Tryd.prog 14 #[.agg #[Value.slice o n c, Value.slice o0 l0 c0, Value.slice o1 l1 c1, Value.slice o2 l2 c2, Value.slice oe ne ce, Value.int .i64 bud]] W fun e w' => e = .returned (.tuple #[.string ⟨#[]⟩, .agg #[Value.int .i64 (R.1 : Int), Value.int .i64 (R.2 : Int)]]) ∧ Below W.heap.size W w' := ht
  have hr : ∀ W, EdgB W oe ne St Ln Up W.heap.size → Calls Tryd.prog 10 #[.agg #[Value.slice o n c, Value.slice o0 l0 c0, Value.slice o1 l1 c1, Value.slice o2 l2 c2, Value.slice oe ne ce, Value.int .i64 bud]] W fun e w' => e = .returned (.agg #[Value.int .i64 (R.1 : Int), Value.int .i64 (R.2 : Int)]) ∧ Below W.heap.size W w' := hr
  have hz : ((R.1 : Int) != 0) = true := by rw [bne_iff_ne]; omega
  have hq := run_eql_fault (R.1 : Int) (R.2 : Int)
  have HE := hide h.e
  clear hX hb1 hM1 hM h hb hbad hR hnm
  go_enter Tryd.func5, Tryd.ntmps5
  go_wp2_with fail
  with_reducible refine hlv.mono ?_
  clear hlv
  rintro e w2 ⟨rfl, hb2⟩
  have hX2 : Blk w2 w.heap.size 27 #[Value.slice o n c, Value.slice o0 l0 c0, Value.slice o1 l1 c1, Value.slice o2 l2 c2, Value.slice oe ne ce, Value.int .i64 bud] := HX.out.below hb2 HX.out.lt
  have k0 : w2.cell? ⟨w.heap.size, 0, none⟩ = some (.slice o n c) := hX2.cell 0
  have k1 : w2.cell? ⟨w.heap.size, 1, none⟩ = some (.slice o0 l0 c0) := hX2.cell 1
  have k2 : w2.cell? ⟨w.heap.size, 2, none⟩ = some (.slice o1 l1 c1) := hX2.cell 2
  have k3 : w2.cell? ⟨w.heap.size, 3, none⟩ = some (.slice o2 l2 c2) := hX2.cell 3
  have k4 : w2.cell? ⟨w.heap.size, 4, none⟩ = some (.slice oe ne ce) := hX2.cell 4
  have hB2 := HB1.out.trans (hb2.mono HB1.out.size)
  have hE2 := (HE.out.below hB2 (Nat.le_refl _)).mono hB2.size
  clear hb2 HX HB1
  go_wp2_with (first | (refine wpList_load_row rfl 27 _ rfl w.heap.size rfl _ #[Value.slice o n c, Value.slice o0 l0 c0, Value.slice o1 l1 c1, Value.slice o2 l2 c2, Value.slice oe ne ce, Value.int .i64 bud] (0, 0) _ hX2 Tryd.underlying27 rfl (by kernel_rfl) ?_))
  clear k0 k1 k2 k3 k4 e0 e1 e2 e3 e4 t0 t1 t2 t3 t4
  with_reducible refine (ht _ hE2).mono ?_
  clear ht hE2
  rintro e w3 ⟨rfl, hb3⟩
  have hX3 : Blk w3 w.heap.size 27 #[Value.slice o n c, Value.slice o0 l0 c0, Value.slice o1 l1 c1, Value.slice o2 l2 c2, Value.slice oe ne ce, Value.int .i64 bud] := hX2.below hb3 hX2.lt
  have hB3 := hB2.trans (hb3.mono hB2.size)
  have hZ4 : Blk (w3.alloc (.cells #[Value.int .i64 0, Value.int .i64 0] 34)) w3.heap.size 34 #[Value.int .i64 0, Value.int .i64 0] := Blk.new _ _ _
  have sR := setRow_new w3 #[Value.int .i64 0, Value.int .i64 0] #[Value.int .i64 (R.1 : Int), Value.int .i64 (R.2 : Int)] 34
  have hP4 : Blk (w3.alloc (.cells #[Value.int .i64 (R.1 : Int), Value.int .i64 (R.2 : Int)] 34)) w3.heap.size 34 #[Value.int .i64 (R.1 : Int), Value.int .i64 (R.2 : Int)] := Blk.new _ _ _
  have hX4 : Blk (w3.alloc (.cells #[Value.int .i64 (R.1 : Int), Value.int .i64 (R.2 : Int)] 34)) w.heap.size 27 #[Value.slice o n c, Value.slice o0 l0 c0, Value.slice o1 l1 c1, Value.slice o2 l2 c2, Value.slice oe ne ce, Value.int .i64 bud] := hX3.alloc _
  have hB4 : Below w.heap.size w (w3.alloc (.cells #[Value.int .i64 (R.1 : Int), Value.int .i64 (R.2 : Int)] 34)) := Bl.alloc hB3 _
  clear hX2 hB2 hb3 hX3 hB3
  go_wp2_with (first | (refine wpList_store_row rfl 34 _ _ rfl w3.heap.size #[Value.int .i64 (R.1 : Int), Value.int .i64 (R.2 : Int)] rfl rfl 34 _ hZ4 (by kernel_rfl) rfl (by kernel_rfl) ?_; rw [sR]) | (refine wpList_load_row rfl 27 _ rfl w.heap.size rfl _ #[Value.slice o n c, Value.slice o0 l0 c0, Value.slice o1 l1 c1, Value.slice o2 l2 c2, Value.slice oe ne ce, Value.int .i64 bud] (0, 0) _ hX4 Tryd.underlying27 rfl (by kernel_rfl) ?_))
  clear hZ4 sR
  have hE4 := (HE.out.below hB4 (Nat.le_refl _)).mono hB4.size
  generalize w3.alloc (.cells #[Value.int .i64 (R.1 : Int), Value.int .i64 (R.2 : Int)] 34) = w4 at *
  generalize w3.heap.size = g3 at *
  with_reducible refine (hr _ hE4).mono ?_
  clear hr hE4 hX4
  rintro e w5 ⟨rfl, hb5⟩
  have hP5 : Blk w5 g3 34 #[Value.int .i64 (R.1 : Int), Value.int .i64 (R.2 : Int)] := hP4.below hb5 hP4.lt
  have hB5 := hB4.trans (hb5.mono hB4.size)
  have hZ6 : Blk (w5.alloc (.cells #[Value.int .i64 0, Value.int .i64 0] 34)) w5.heap.size 34 #[Value.int .i64 0, Value.int .i64 0] := Blk.new _ _ _
  have sR := setRow_new w5 #[Value.int .i64 0, Value.int .i64 0] #[Value.int .i64 (R.1 : Int), Value.int .i64 (R.2 : Int)] 34
  have hQ6 : Blk (w5.alloc (.cells #[Value.int .i64 (R.1 : Int), Value.int .i64 (R.2 : Int)] 34)) w5.heap.size 34 #[Value.int .i64 (R.1 : Int), Value.int .i64 (R.2 : Int)] := Blk.new _ _ _
  have q0 : (w5.alloc (.cells #[Value.int .i64 (R.1 : Int), Value.int .i64 (R.2 : Int)] 34)).cell? ⟨w5.heap.size, 0, none⟩ = some (.int .i64 (R.1 : Int)) := hQ6.cell 0
  have hP6 : Blk (w5.alloc (.cells #[Value.int .i64 (R.1 : Int), Value.int .i64 (R.2 : Int)] 34)) g3 34 #[Value.int .i64 (R.1 : Int), Value.int .i64 (R.2 : Int)] := hP5.alloc _
  have hB6 : Below w.heap.size w (w5.alloc (.cells #[Value.int .i64 (R.1 : Int), Value.int .i64 (R.2 : Int)] 34)) := Bl.alloc hB5 _
  clear hP4 hb5 hB4 hP5 hB5
  go_wp2_with (first | (refine wpList_store_row rfl 34 _ _ rfl w5.heap.size #[Value.int .i64 (R.1 : Int), Value.int .i64 (R.2 : Int)] rfl rfl 34 _ hZ6 (by kernel_rfl) rfl (by kernel_rfl) ?_; rw [sR]) | (refine wpList_load_rowg (by rfl) 34 _ rfl g3 rfl _ #[Value.int .i64 (R.1 : Int), Value.int .i64 (R.2 : Int)] (0, 0) _ hP6 Tryd.underlying34 rfl (by kernel_rfl) ?_) | (refine wpList_load_rowg (by rfl) 34 _ rfl w5.heap.size rfl _ #[Value.int .i64 (R.1 : Int), Value.int .i64 (R.2 : Int)] (0, 0) _ hQ6 Tryd.underlying34 rfl (by kernel_rfl) ?_))
  go_ret
  exact ⟨rfl, hB6⟩
theorem nums_congr {W : World} {k : IntKind} {o : Option Addr} {n : Nat} {G G' : Nat → Int} (h : NumsAt W k o n G) (e : ∀ i, i < n → G i = G' i) : NumsAt W k o n G' := fun i hi => by rw [← e i hi]; exact h i hi
theorem edg_congr {W : World} {o : Option Addr} {n B : Nat} {St St' : Nat → Int} {Ln Ln' : Nat → Nat} {Up Up' : Nat → Bool} (h : EdgB W o n St Ln Up B) (e : ∀ i, i < n → St i = St' i ∧ Ln i = Ln' i ∧ Up i = Up' i) : EdgB W o n St' Ln' Up' B := fun i hi => by
  obtain ⟨e1, e2, e3⟩ := e i hi
  rw [← e1, ← e2, ← e3]
  exact h i hi
theorem chk_parts {n l0 l1 l2 ne : Nat} {St : Nat → Int} {Ln : Nat → Nat} {bud : Int} (h : (chkS n l0 l1 l2 ne St Ln bud).1 = 0) : chkS n l0 l1 l2 ne St Ln bud = (0, 0) ∧ ChkOk n ∧ (∀ i, i < ne → 0 ≤ St i ∧ St i ≤ limE ∧ Ln i < 4) ∧ 0 ≤ bud ∧ bud ≤ 1099511627776 := by
  have h0 := h
  unfold chkS at h ⊢
  split at h
  · rename_i hA; exact absurd h hA
  · rename_i hA
    rw [if_neg hA]
    split at h
    · rename_i hV; exact absurd h hV
    · rename_i hV
      rw [if_neg hV]
      split at h
      · cases h
      · rename_i hB
        rw [if_neg hB]
        have hA : chkA n l0 l1 l2 = 0 := by simpa using hA
        have hV : (chkV St Ln ne).1 = 0 := by simpa using hV
        have hk : ChkOk n := by
          unfold chkA at hA
          split at hA
          · cases hA
          · rename_i g; exact Classical.not_not.1 g
        refine ⟨rfl, hk, ?_, by omega, by omega⟩
        unfold chkV at hV
        split at hV
        · cases hV
        · have hz := chkE_zero ne 0 hV
          have key : ∀ i, i < ne → (if i = 0 then 0 else St (i - 1)) ≤ St i ∧ St i ≤ limE ∧ Ln i < 4 := fun i hi => by
            have := hz i (by omega) (by omega)
            unfold wrE at this
            by_cases g1 : 4 ≤ Ln i
            · rw [if_pos g1] at this
              omega
            · rw [if_neg g1] at this
              by_cases g2 : St i < (if i = 0 then 0 else St (i - 1)) ∨ limE < St i
              · rw [if_pos g2] at this
                omega
              · have g3 := not_or.1 g2
                exact ⟨Int.not_lt.1 g3.1, Int.not_lt.1 g3.2, by omega⟩
          have pos : ∀ i, i < ne → 0 ≤ St i := by
            intro i
            induction i with
            | zero => intro hi; have := (key 0 hi).1; simpa using this
            | succ i ih =>
              intro hi
              have h1 := (key (i + 1) hi).1
              rw [if_neg (by omega)] at h1
              have h2 := ih (by omega)
              have e : i + 1 - 1 = i := by omega
              rw [e] at h1
              omega
          exact fun i hi => ⟨pos i hi, (key i hi).2⟩
/-- A script's text, read again. -/
theorem text_parse (n l0 l1 l2 ne bud : Nat) (F F0 F1 F2 : Nat → Nat) (St : Nat → Nat) (Ln : Nat → Nat) (Up : Nat → Bool) (M : Int) (w : World) (hM : w.cell? ⟨0, 0, none⟩ = some (.int .i64 M)) (hn : n ≤ 20000) (h0 : l0 ≤ 300) (h1 : l1 ≤ 300) (h2 : l2 ≤ 300) (he : ne ≤ 200)
    (hF : ∀ i, F i < 256) (hF0 : ∀ i, F0 i < 256) (hF1 : ∀ i, F1 i < 256) (hF2 : ∀ i, F2 i < 256) (hk : ChkOk n) (hS : ∀ i, i < ne → St i < 1000000000000000000) (hL : ∀ i, i < ne → Ln i < 4) (hb : bud < 1000000000000000000)
    (hc : chkS n l0 l1 l2 ne (fun i => (St i : Int)) Ln (bud : Int) = (0, 0)) :
    Calls Tryd.prog 12 #[.string ⟨(txT n F l0 l1 l2 F0 F1 F2 ne St Ln Up bud).toArray⟩] w fun e w' => ∃ (o : Option Addr) (c : Nat) (o0 : Option Addr) (c0 : Nat) (o1 : Option Addr) (c1 : Nat) (o2 : Option Addr) (c2 : Nat) (oe : Option Addr) (ce : Nat), e = .returned (.tuple #[.agg #[.slice o n c, .slice o0 l0 c0, .slice o1 l1 c1, .slice o2 l2 c2, .slice oe ne ce, .int .i64 (bud : Int)], .agg #[Value.int .i64 0, Value.int .i64 0]]) ∧
      NumsAt w' .u8 o n (fun i => (F i : Int)) ∧ NumsAt w' .u8 o0 l0 (fun i => (F0 i : Int)) ∧ NumsAt w' .u8 o1 l1 (fun i => (F1 i : Int)) ∧ NumsAt w' .u8 o2 l2 (fun i => (F2 i : Int)) ∧ EdgB w' oe ne (fun i => (St i : Int)) Ln Up w'.heap.size ∧ Below w.heap.size w w' := by
  have hlen := txT_len n F l0 l1 l2 F0 F1 F2 ne St Ln Up bud (by have := hk.2.2; omega) h0 h1 h2 he
  have h := pParse_calls (txT n F l0 l1 l2 F0 F1 F2 ne St Ln Up bud) M w (by unfold maxLen; omega) hM
  rw [parV_txT n F l0 l1 l2 F0 F1 F2 ne St Ln Up bud hn h0 h1 h2 he hF hF0 hF1 hF2 hk hS hL hb hc] at h
  refine Calls.mono h ?_
  rintro e w' ⟨hbl, o, c, o0, c0, o1, c1, o2, c2, oe, ce, q0, q1, q2, q3, q4, q5, q6, q7, q8⟩
  have en : n / 8192 * 8192 = n := by have := hk.2.2; omega
  have len : ∀ (m : Nat) (G : Nat → Nat), ((List.range m).map G).length = m := fun m G => by simp
  have eby : ∀ (m : Nat) (G : Nat → Nat) (i : Nat), i < m → byF ((List.range m).map G) i = (G i : Int) := fun m G i hi => by
    unfold byF
    rw [getD_told _ _ _ _ hi]
  unfold txTl at q0 q1 q2 q3 q4 q5
  dsimp only at q0 q1 q2 q3 q4 q5
  rw [len, len, len, List.length_map, List.length_range, en] at q0
  rw [en, rom_told] at q1
  rw [len] at q2 q3 q4
  rw [List.length_map, List.length_range] at q5
  refine ⟨o, c, o0, c0, o1, c1, o2, c2, oe, ce, q0, nums_congr q1 fun i hi => by rw [if_pos hi], nums_congr q2 (eby l0 F0), nums_congr q3 (eby l1 F1), nums_congr q4 (eby l2 F2), edg_congr q5 fun i hi => ?_, hbl⟩
  unfold edSt edLn edUp
  rw [getD_told _ _ _ _ hi]
  exact ⟨rfl, rfl, rfl⟩
set_option maxRecDepth 100000 in
set_option maxHeartbeats 16000000 in
/-- A script that may be. -/
theorem texts_ok (o o0 o1 o2 oe : Option Addr) (n c l0 c0 l1 c1 l2 c2 ne ce bud : Nat) (F F0 F1 F2 : Nat → Nat) (St : Nat → Nat) (Ln : Nat → Nat) (Up : Nat → Bool) (M : Int) (w : World) (hM : w.cell? ⟨0, 0, none⟩ = some (.int .i64 M)) (h : ScrIn w o o0 o1 o2 oe n c l0 c0 l1 c1 l2 c2 ne ce F F0 F1 F2 (fun i => (St i : Int)) Ln Up) (hb : ¬ Big n l0 l1 l2 ne)
    (hok : chkS n l0 l1 l2 ne (fun i => (St i : Int)) Ln (bud : Int) = (0, 0)) (hk : ChkOk n) (hS : ∀ i, i < ne → St i < 1000000000000000000) (hL : ∀ i, i < ne → Ln i < 4) (hbd : bud < 1000000000000000000) :
    Calls Tryd.prog 5 #[.agg #[Value.slice o n c, Value.slice o0 l0 c0, Value.slice o1 l1 c1, Value.slice o2 l2 c2, Value.slice oe ne ce, Value.int .i64 (bud : Int)]] w fun e w' => e = .returned (.bool true) ∧ Below w.heap.size w w' := by
  have hX : Blk (w.alloc (.cells #[Value.slice o n c, Value.slice o0 l0 c0, Value.slice o1 l1 c1, Value.slice o2 l2 c2, Value.slice oe ne ce, Value.int .i64 (bud : Int)] 27)) w.heap.size 27 #[Value.slice o n c, Value.slice o0 l0 c0, Value.slice o1 l1 c1, Value.slice o2 l2 c2, Value.slice oe ne ce, Value.int .i64 (bud : Int)] := Blk.new _ _ _
  have hb1 : Below w.heap.size w (w.alloc (.cells #[Value.slice o n c, Value.slice o0 l0 c0, Value.slice o1 l1 c1, Value.slice o2 l2 c2, Value.slice oe ne ce, Value.int .i64 (bud : Int)] 27)) := Bl.alloc (Below.refl _ _) _
  have hM1 := (hb1.cell (p := ⟨0, 0, none⟩) (cell_lt hM)).trans hM
  have hlv := live33_calls M _ hM1
  have HX := hide hX
  have HB1 := hide hb1
  have HM1 := hide hM1
  unfold Big at hb
  have e0 : decide ((20000 : Int) < (n : Int)) = false := decide_eq_false (by omega)
  have e1 : decide ((200 : Int) < (ne : Int)) = false := decide_eq_false (by omega)
  have e2 : decide ((300 : Int) < (l0 : Int)) = false := decide_eq_false (by omega)
  have e3 : decide ((300 : Int) < (l1 : Int)) = false := decide_eq_false (by omega)
  have e4 : decide ((300 : Int) < (l2 : Int)) = false := decide_eq_false (by omega)
  have t0 : decide (20000 < n) = false := decide_eq_false (by omega)
  have t1 : decide (200 < ne) = false := decide_eq_false (by omega)
  have t2 : decide (300 < l0) = false := decide_eq_false (by omega)
  have t3 : decide (300 < l1) = false := decide_eq_false (by omega)
  have t4 : decide (300 < l2) = false := decide_eq_false (by omega)
  have hnm : n ≤ maxLen := by unfold maxLen; omega
  have ht := fun W (hw : Below w.heap.size w W) => text_calls o o0 o1 o2 oe n c l0 c0 l1 c1 l2 c2 ne ce bud F F0 F1 F2 St Ln Up W (by omega) (by omega) (by omega) (by omega) (by omega) h.hc h.hc0 h.hc1 h.hc2 h.b h.b0 h.b1 h.b2 (h.f.below hw (Nat.le_refl _)) (h.f0.below hw (Nat.le_refl _)) (h.f1.below hw (Nat.le_refl _)) (h.f2.below hw (Nat.le_refl _)) ((h.e.below hw (Nat.le_refl _)).mono hw.size) (fun i hi => by have := hS i hi; omega) hL hok hk (by omega)
  have hrt := fun W (hw : Below w.heap.size w W) => rtext_calls o o0 o1 o2 oe n c l0 c0 l1 c1 l2 c2 ne ce bud F F0 F1 F2 St Ln Up W (by omega) (by omega) (by omega) (by omega) (by omega) (by omega) h.b h.b0 h.b1 h.b2 (h.f.below hw (Nat.le_refl _)) (h.f0.below hw (Nat.le_refl _)) (h.f1.below hw (Nat.le_refl _)) (h.f2.below hw (Nat.le_refl _)) ((h.e.below hw (Nat.le_refl _)).mono hw.size) (fun i hi => by have := hS i hi; omega) hL
  have hpr := fun W hMW => text_parse n l0 l1 l2 ne bud F F0 F1 F2 St Ln Up M W hMW (by omega) (by omega) (by omega) (by omega) (by omega) h.b h.b0 h.b1 h.b2 hk hS hL hbd hok
  have hr := fun W (hw : Below w.heap.size w W) => rsCheck_calls o o0 o1 o2 oe n c l0 c0 l1 c1 l2 c2 ne ce (bud : Int) (fun i => (St i : Int)) Ln Up W hnm ((h.e.below hw (Nat.le_refl _)).mono hw.size)
  rw [hok] at hr
  have hr : ∀ W, Below w.heap.size w W → Calls Tryd.prog 10 #[.agg #[Value.slice o n c, Value.slice o0 l0 c0, Value.slice o1 l1 c1, Value.slice o2 l2 c2, Value.slice oe ne ce, Value.int .i64 (bud : Int)]] W fun e w' => e = .returned (.agg #[Value.int .i64 0, Value.int .i64 0]) ∧ Below W.heap.size W w' := hr
  have ht : ∀ W, Below w.heap.size w W → Calls Tryd.prog 14 #[.agg #[Value.slice o n c, Value.slice o0 l0 c0, Value.slice o1 l1 c1, Value.slice o2 l2 c2, Value.slice oe ne ce, Value.int .i64 (bud : Int)]] W fun e w' => e = .returned (.tuple #[.string ⟨(txT n F l0 l1 l2 F0 F1 F2 ne St Ln Up bud).toArray⟩, .agg #[Value.int .i64 0, Value.int .i64 0]]) ∧ Below W.heap.size W w' := ht
  generalize (⟨(txT n F l0 l1 l2 F0 F1 F2 ne St Ln Up bud).toArray⟩ : ByteArray) = X at *
  have hq := run_eql_fault 0 0
  have hXX : (X.toList == X.toList) = true := by simp
  have HI := hide h
  clear hX hb1 hM1 hM h hb hok hk hS hL hbd hnm
  go_enter Tryd.func5, Tryd.ntmps5
  go_wp2_with fail
  with_reducible refine hlv.mono ?_
  clear hlv
  rintro e w2 ⟨rfl, hb2⟩
  have hX2 : Blk w2 w.heap.size 27 #[Value.slice o n c, Value.slice o0 l0 c0, Value.slice o1 l1 c1, Value.slice o2 l2 c2, Value.slice oe ne ce, Value.int .i64 (bud : Int)] := HX.out.below hb2 HX.out.lt
  have k0 : w2.cell? ⟨w.heap.size, 0, none⟩ = some (.slice o n c) := hX2.cell 0
  have k1 : w2.cell? ⟨w.heap.size, 1, none⟩ = some (.slice o0 l0 c0) := hX2.cell 1
  have k2 : w2.cell? ⟨w.heap.size, 2, none⟩ = some (.slice o1 l1 c1) := hX2.cell 2
  have k3 : w2.cell? ⟨w.heap.size, 3, none⟩ = some (.slice o2 l2 c2) := hX2.cell 3
  have k4 : w2.cell? ⟨w.heap.size, 4, none⟩ = some (.slice oe ne ce) := hX2.cell 4
  have hB2 := HB1.out.trans (hb2.mono HB1.out.size)
  have HM2 : Hid (w2.cell? ⟨0, 0, none⟩ = some (.int .i64 M)) := (hb2.cell (p := ⟨0, 0, none⟩) (cell_lt HM1.out)).trans HM1.out
  clear hb2 HX HB1 HM1
  go_wp2_with (first | (refine wpList_load_row rfl 27 _ rfl w.heap.size rfl _ #[Value.slice o n c, Value.slice o0 l0 c0, Value.slice o1 l1 c1, Value.slice o2 l2 c2, Value.slice oe ne ce, Value.int .i64 (bud : Int)] (0, 0) _ hX2 Tryd.underlying27 rfl (by kernel_rfl) ?_))
  clear k0 k1 k2 k3 k4 e0 e1 e2 e3 e4 t0 t1 t2 t3 t4
  with_reducible refine (ht _ hB2).mono ?_
  clear ht
  rintro e w3 ⟨rfl, hb3⟩
  have hX3 : Blk w3 w.heap.size 27 #[Value.slice o n c, Value.slice o0 l0 c0, Value.slice o1 l1 c1, Value.slice o2 l2 c2, Value.slice oe ne ce, Value.int .i64 (bud : Int)] := hX2.below hb3 hX2.lt
  have hB3 := hB2.trans (hb3.mono hB2.size)
  have hZ4 : Blk (w3.alloc (.cells #[Value.int .i64 0, Value.int .i64 0] 34)) w3.heap.size 34 #[Value.int .i64 0, Value.int .i64 0] := Blk.new _ _ _
  have sR := setRow_new w3 #[Value.int .i64 0, Value.int .i64 0] #[Value.int .i64 0, Value.int .i64 0] 34
  have hX4 : Blk (w3.alloc (.cells #[Value.int .i64 0, Value.int .i64 0] 34)) w.heap.size 27 #[Value.slice o n c, Value.slice o0 l0 c0, Value.slice o1 l1 c1, Value.slice o2 l2 c2, Value.slice oe ne ce, Value.int .i64 (bud : Int)] := hX3.alloc _
  have hB4 : Below w.heap.size w (w3.alloc (.cells #[Value.int .i64 0, Value.int .i64 0] 34)) := Bl.alloc hB3 _
  have hM3 := (hb3.cell (p := ⟨0, 0, none⟩) (cell_lt HM2.out)).trans HM2.out
  have HM4 : Hid ((w3.alloc (.cells #[Value.int .i64 0, Value.int .i64 0] 34)).cell? ⟨0, 0, none⟩ = some (.int .i64 M)) := ((Bl.alloc (Below.refl w3.heap.size w3) (.cells #[Value.int .i64 0, Value.int .i64 0] 34)).cell (p := ⟨0, 0, none⟩) (cell_lt hM3)).trans hM3
  clear hX2 hB2 hb3 hX3 hB3 hM3 HM2
  go_wp2_with (first | (refine wpList_store_row rfl 34 _ _ rfl w3.heap.size #[Value.int .i64 0, Value.int .i64 0] rfl rfl 34 _ hZ4 (by kernel_rfl) rfl (by kernel_rfl) ?_; rw [sR]) | (refine wpList_load_row rfl 27 _ rfl w.heap.size rfl _ #[Value.slice o n c, Value.slice o0 l0 c0, Value.slice o1 l1 c1, Value.slice o2 l2 c2, Value.slice oe ne ce, Value.int .i64 (bud : Int)] (0, 0) _ hX4 Tryd.underlying27 rfl (by kernel_rfl) ?_))
  clear sR
  generalize w3.alloc (.cells #[Value.int .i64 0, Value.int .i64 0] 34) = w4 at *
  generalize w3.heap.size = g3 at *
  with_reducible refine (hr _ hB4).mono ?_
  clear hr
  rintro e w5 ⟨rfl, hb5⟩
  have hP5 : Blk w5 g3 34 #[Value.int .i64 0, Value.int .i64 0] := hZ4.below hb5 hZ4.lt
  have hX5 : Blk w5 w.heap.size 27 #[Value.slice o n c, Value.slice o0 l0 c0, Value.slice o1 l1 c1, Value.slice o2 l2 c2, Value.slice oe ne ce, Value.int .i64 (bud : Int)] := hX4.below hb5 hX4.lt
  have hB5 := hB4.trans (hb5.mono hB4.size)
  have hM5 := (hb5.cell (p := ⟨0, 0, none⟩) (cell_lt HM4.out)).trans HM4.out
  have hZ6 : Blk (w5.alloc (.cells #[Value.int .i64 0, Value.int .i64 0] 34)) w5.heap.size 34 #[Value.int .i64 0, Value.int .i64 0] := Blk.new _ _ _
  have sR := setRow_new w5 #[Value.int .i64 0, Value.int .i64 0] #[Value.int .i64 0, Value.int .i64 0] 34
  have q0 : (w5.alloc (.cells #[Value.int .i64 0, Value.int .i64 0] 34)).cell? ⟨w5.heap.size, 0, none⟩ = some (.int .i64 0) := hZ6.cell 0
  have hP6 : Blk (w5.alloc (.cells #[Value.int .i64 0, Value.int .i64 0] 34)) g3 34 #[Value.int .i64 0, Value.int .i64 0] := hP5.alloc _
  have hX6 : Blk (w5.alloc (.cells #[Value.int .i64 0, Value.int .i64 0] 34)) w.heap.size 27 #[Value.slice o n c, Value.slice o0 l0 c0, Value.slice o1 l1 c1, Value.slice o2 l2 c2, Value.slice oe ne ce, Value.int .i64 (bud : Int)] := hX5.alloc _
  have hB6 : Below w.heap.size w (w5.alloc (.cells #[Value.int .i64 0, Value.int .i64 0] 34)) := Bl.alloc hB5 _
  have hM6 := ((Bl.alloc (Below.refl w5.heap.size w5) (.cells #[Value.int .i64 0, Value.int .i64 0] 34)).cell (p := ⟨0, 0, none⟩) (cell_lt hM5)).trans hM5
  clear hZ4 hb5 hB4 hP5 hB5 hX4 hX5 HM4 hM5
  go_wp2_with (first | (refine wpList_store_row rfl 34 _ _ rfl w5.heap.size #[Value.int .i64 0, Value.int .i64 0] rfl rfl 34 _ hZ6 (by kernel_rfl) rfl (by kernel_rfl) ?_; rw [sR]))
  clear sR hZ6 q0
  generalize w5.alloc (.cells #[Value.int .i64 0, Value.int .i64 0] 34) = w6 at *
  generalize w5.heap.size = g5 at *
  with_reducible refine (hpr _ hM6).mono ?_
  clear hpr hM6
  rintro e w7 ⟨p, d, p0, d0, p1, d1, p2, d2, pe, de, rfl, f, f0, f1, f2, hE, hb7⟩
  have hP7 : Blk w7 g3 34 #[Value.int .i64 0, Value.int .i64 0] := hP6.below hb7 hP6.lt
  have hX7 : Blk w7 w.heap.size 27 #[Value.slice o n c, Value.slice o0 l0 c0, Value.slice o1 l1 c1, Value.slice o2 l2 c2, Value.slice oe ne ce, Value.int .i64 (bud : Int)] := hX6.below hb7 hX6.lt
  have hB7 := hB6.trans (hb7.mono hB6.size)
  have hY : Blk ((w7.alloc (.cells #[Value.slice none 0 0, .slice none 0 0, .slice none 0 0, .slice none 0 0, .slice none 0 0, .int .i64 0] 27)).alloc (.cells #[Value.int .i64 0, Value.int .i64 0] 34)) (w7.heap.size + 1) 34 #[Value.int .i64 0, Value.int .i64 0] := Blk.newAt (by simp)
  have hZ : Blk ((w7.alloc (.cells #[Value.slice none 0 0, .slice none 0 0, .slice none 0 0, .slice none 0 0, .slice none 0 0, .int .i64 0] 27)).alloc (.cells #[Value.int .i64 0, Value.int .i64 0] 34)) w7.heap.size 27 #[Value.slice none 0 0, .slice none 0 0, .slice none 0 0, .slice none 0 0, .slice none 0 0, .int .i64 0] := (Blk.new _ _ _).alloc _
  have hY8 := hY.setRow_far (g' := w7.heap.size) (by omega) #[Value.slice p n d, Value.slice p0 l0 d0, Value.slice p1 l1 d1, Value.slice p2 l2 d2, Value.slice pe ne de, Value.int .i64 (bud : Int)]
  have hb8 : Below w7.heap.size w7 ((((w7.alloc (.cells #[Value.slice none 0 0, .slice none 0 0, .slice none 0 0, .slice none 0 0, .slice none 0 0, .int .i64 0] 27)).alloc (.cells #[Value.int .i64 0, Value.int .i64 0] 34)).setRow w7.heap.size #[Value.slice p n d, Value.slice p0 l0 d0, Value.slice p1 l1 d1, Value.slice p2 l2 d2, Value.slice pe ne de, Value.int .i64 (bud : Int)]).setRow (w7.heap.size + 1) #[Value.int .i64 0, Value.int .i64 0]) := below_setRow (below_setRow (Bl.alloc (Bl.alloc (Below.refl _ _) _) _) (Nat.le_refl _) _) (by omega) _
  have hS8 : Blk ((((w7.alloc (.cells #[Value.slice none 0 0, .slice none 0 0, .slice none 0 0, .slice none 0 0, .slice none 0 0, .int .i64 0] 27)).alloc (.cells #[Value.int .i64 0, Value.int .i64 0] 34)).setRow w7.heap.size #[Value.slice p n d, Value.slice p0 l0 d0, Value.slice p1 l1 d1, Value.slice p2 l2 d2, Value.slice pe ne de, Value.int .i64 (bud : Int)]).setRow (w7.heap.size + 1) #[Value.int .i64 0, Value.int .i64 0]) w7.heap.size 27 #[Value.slice p n d, Value.slice p0 l0 d0, Value.slice p1 l1 d1, Value.slice p2 l2 d2, Value.slice pe ne de, Value.int .i64 (bud : Int)] := (hZ.setRow #[Value.slice p n d, Value.slice p0 l0 d0, Value.slice p1 l1 d1, Value.slice p2 l2 d2, Value.slice pe ne de, Value.int .i64 (bud : Int)]).setRow_far (by omega) _
  have hF8 : Blk ((((w7.alloc (.cells #[Value.slice none 0 0, .slice none 0 0, .slice none 0 0, .slice none 0 0, .slice none 0 0, .int .i64 0] 27)).alloc (.cells #[Value.int .i64 0, Value.int .i64 0] 34)).setRow w7.heap.size #[Value.slice p n d, Value.slice p0 l0 d0, Value.slice p1 l1 d1, Value.slice p2 l2 d2, Value.slice pe ne de, Value.int .i64 (bud : Int)]).setRow (w7.heap.size + 1) #[Value.int .i64 0, Value.int .i64 0]) (w7.heap.size + 1) 34 #[Value.int .i64 0, Value.int .i64 0] := hY8.setRow #[Value.int .i64 0, Value.int .i64 0]
  have hP8 : Blk ((((w7.alloc (.cells #[Value.slice none 0 0, .slice none 0 0, .slice none 0 0, .slice none 0 0, .slice none 0 0, .int .i64 0] 27)).alloc (.cells #[Value.int .i64 0, Value.int .i64 0] 34)).setRow w7.heap.size #[Value.slice p n d, Value.slice p0 l0 d0, Value.slice p1 l1 d1, Value.slice p2 l2 d2, Value.slice pe ne de, Value.int .i64 (bud : Int)]).setRow (w7.heap.size + 1) #[Value.int .i64 0, Value.int .i64 0]) g3 34 #[Value.int .i64 0, Value.int .i64 0] := hP7.below hb8 hP7.lt
  have hX8 : Blk ((((w7.alloc (.cells #[Value.slice none 0 0, .slice none 0 0, .slice none 0 0, .slice none 0 0, .slice none 0 0, .int .i64 0] 27)).alloc (.cells #[Value.int .i64 0, Value.int .i64 0] 34)).setRow w7.heap.size #[Value.slice p n d, Value.slice p0 l0 d0, Value.slice p1 l1 d1, Value.slice p2 l2 d2, Value.slice pe ne de, Value.int .i64 (bud : Int)]).setRow (w7.heap.size + 1) #[Value.int .i64 0, Value.int .i64 0]) w.heap.size 27 #[Value.slice o n c, Value.slice o0 l0 c0, Value.slice o1 l1 c1, Value.slice o2 l2 c2, Value.slice oe ne ce, Value.int .i64 (bud : Int)] := hX7.below hb8 hX7.lt
  have hB8 := hB7.trans (hb8.mono hB7.size)
  have HU : Hid (NumsAt w7 .u8 p n (fun i => (F i : Int)) ∧ NumsAt w7 .u8 p0 l0 (fun i => (F0 i : Int)) ∧ NumsAt w7 .u8 p1 l1 (fun i => (F1 i : Int)) ∧ NumsAt w7 .u8 p2 l2 (fun i => (F2 i : Int)) ∧ EdgB w7 pe ne (fun i => (St i : Int)) Ln Up w7.heap.size) := ⟨f, f0, f1, f2, hE⟩
  have HB8 := hide hB8
  have Hb8 := hide hb8
  clear hP6 hX6 hB6 hb7 hP7 hX7 hB7 hY hb8 f f0 f1 f2 hE hB8
  go_wp2_with (first | (refine wpList_store_row rfl 27 _ _ rfl w7.heap.size #[Value.slice p n d, Value.slice p0 l0 d0, Value.slice p1 l1 d1, Value.slice p2 l2 d2, Value.slice pe ne de, Value.int .i64 (bud : Int)] rfl rfl 27 _ hZ (by kernel_rfl) rfl (by kernel_rfl) ?_) | (refine wpList_store_row rfl 34 _ _ rfl (w7.heap.size + 1) #[Value.int .i64 0, Value.int .i64 0] rfl rfl 34 _ hY8 (by kernel_rfl) rfl (by kernel_rfl) ?_) | (refine wpList_load_row rfl 34 _ rfl g3 rfl _ #[Value.int .i64 0, Value.int .i64 0] (0, 0) _ hP8 Tryd.underlying34 rfl (by kernel_rfl) ?_) | (refine wpList_load_rowg (by rfl) 27 _ rfl w.heap.size rfl _ #[Value.slice o n c, Value.slice o0 l0 c0, Value.slice o1 l1 c1, Value.slice o2 l2 c2, Value.slice oe ne ce, Value.int .i64 (bud : Int)] (0, 0) _ hX8 Tryd.underlying27 rfl (by kernel_rfl) ?_))
  with_reducible refine (hrt _ HB8.out).mono ?_
  clear hrt hZ hY8
  rintro e w9 ⟨rfl, hb9⟩
  have hS9 : Blk w9 w7.heap.size 27 #[Value.slice p n d, Value.slice p0 l0 d0, Value.slice p1 l1 d1, Value.slice p2 l2 d2, Value.slice pe ne de, Value.int .i64 (bud : Int)] := hS8.below hb9 hS8.lt
  have hF9 : Blk w9 (w7.heap.size + 1) 34 #[Value.int .i64 0, Value.int .i64 0] := hF8.below hb9 hF8.lt
  have hX9 : Blk w9 w.heap.size 27 #[Value.slice o n c, Value.slice o0 l0 c0, Value.slice o1 l1 c1, Value.slice o2 l2 c2, Value.slice oe ne ce, Value.int .i64 (bud : Int)] := hX8.below hb9 hX8.lt
  have HB9 : Hid (Below w.heap.size w w9) := HB8.out.trans (hb9.mono HB8.out.size)
  have Hb9 : Hid (Below w7.heap.size w7 w9) := Hb8.out.trans (hb9.mono Hb8.out.size)
  clear hS8 hF8 hP8 hX8 HB8 Hb8 hb9
  go_wp2_with (first | (refine wpList_load_rowg (by rfl) 34 _ rfl (w7.heap.size + 1) rfl _ #[Value.int .i64 0, Value.int .i64 0] (0, 0) _ hF9 Tryd.underlying34 rfl (by kernel_rfl) ?_) | (refine wpList_load_rowg (by rfl) 27 _ rfl w7.heap.size rfl _ #[Value.slice p n d, Value.slice p0 l0 d0, Value.slice p1 l1 d1, Value.slice p2 l2 d2, Value.slice pe ne de, Value.int .i64 (bud : Int)] (0, 0) _ hS9 Tryd.underlying27 rfl (by kernel_rfl) ?_) | (refine wpList_load_rowg (by rfl) 27 _ rfl w.heap.size rfl _ #[Value.slice o n c, Value.slice o0 l0 c0, Value.slice o1 l1 c1, Value.slice o2 l2 c2, Value.slice oe ne ce, Value.int .i64 (bud : Int)] (0, 0) _ hX9 Tryd.underlying27 rfl (by kernel_rfl) ?_))
  obtain ⟨f, f0, f1, f2, hE⟩ := HU.out
  have hb79 := Hb9.out
  have hB9 := HB9.out
  have hm : maxLen = 9223372036854775807 := rfl
  have hI := HI.out
  have e1 := hI.hc
  have e2 := hI.hc0
  have e3 := hI.hc1
  have e4 := hI.hc2
  have e5 := hI.hce
  with_reducible refine (same_calls p p0 p1 p2 pe o o0 o1 o2 oe n d l0 d0 l1 d1 l2 d2 ne de c c0 c1 c2 ce (bud : Int) (fun i => (F i : Int)) (fun i => (F0 i : Int)) (fun i => (F1 i : Int)) (fun i => (F2 i : Int)) (fun i => (St i : Int)) Ln Up _ (by omega) (by omega) (by omega) (by omega) (by omega) (f.below hb79 (Nat.le_refl _)) (f0.below hb79 (Nat.le_refl _)) (f1.below hb79 (Nat.le_refl _)) (f2.below hb79 (Nat.le_refl _)) (hI.f.below hB9 (Nat.le_refl _)) (hI.f0.below hB9 (Nat.le_refl _)) (hI.f1.below hB9 (Nat.le_refl _)) (hI.f2.below hB9 (Nat.le_refl _)) ((hE.low hb79).mono hb79.size) ((hI.e.below hB9 (Nat.le_refl _)).mono hB9.size)).mono ?_
  rintro e w10 ⟨rfl, hb10⟩
  have hB10 := hB9.trans (hb10.mono hB9.size)
  go_wp2_with fail
  go_ret
  exact ⟨rfl, hB10⟩
section
open Go.ChangeShapes Go.WideShapes Go.ChangeAt
theorem walk_ScriptTexts {H : Type} {enc : TypeId × Value → H} {W : World} {base : Nat} {v0 : Value} {d0 : DataW H} {p0 : List MemPlace}
    (hsh : W.ShapedOpen Tryd.prog) (hv0 : Value.okWide Tryd.prog W .any base 27 v0) (hd0 : DataW.Trod enc Tryd.prog W 0 (fun _ => true) true 27 v0 d0 p0) :
    Calls Tryd.prog 5 #[v0] W fun e W' => e = .returned (.bool true) ∧ Below W.heap.size W W' := by
  obtain ⟨M, hM⟩ := maxLen_cell hsh
  obtain ⟨o, o0, o1, o2, oe, n, c, l0, c0, l1, c1, l2, c2, ne, ce, bud, F, F0, F1, F2, St, Ln, Up, rfl, h, _, _, _⟩ := open_script hv0 hd0
  by_cases hb : Big n l0 l1 l2 ne
  · exact texts_big o o0 o1 o2 oe n c l0 c0 l1 c1 l2 c2 ne ce bud M W hM hb
  · by_cases hc : (chkS n l0 l1 l2 ne St Ln bud).1 = 0
    · obtain ⟨h0, h1, h2, h3, h4⟩ := chk_parts hc
      obtain ⟨bd, rfl⟩ : ∃ bd : Nat, bud = (bd : Int) := ⟨bud.toNat, by omega⟩
      have hst : ∀ i, i < ne → St i = (((St i).toNat : Nat) : Int) := fun i hi => by have := (h2 i hi).1; omega
      have h' : ScrIn W o o0 o1 o2 oe n c l0 c0 l1 c1 l2 c2 ne ce F F0 F1 F2 (fun i => (((St i).toNat : Nat) : Int)) Ln Up := ⟨h.f, h.f0, h.f1, h.f2, h.b, h.b0, h.b1, h.b2, edg_congr h.e (fun i hi => ⟨hst i hi, rfl, rfl⟩), h.hc, h.hc0, h.hc1, h.hc2, h.hce, fun i hi => by rw [← hst i hi]; exact h.hs i hi⟩
      refine texts_ok o o0 o1 o2 oe n c l0 c0 l1 c1 l2 c2 ne ce bd F F0 F1 F2 (fun i => (St i).toNat) Ln Up M W hM h' hb ?_ h1 (fun i hi => ?_) (fun i hi => (h2 i hi).2.2) (by omega)
      · rw [← h0]
        exact chkS_congr fun j hj => ⟨(hst j hj).symm, rfl⟩
      · have := h2 i hi
        unfold limE at this
        show (St i).toNat < _
        omega
    · exact texts_bad o o0 o1 o2 oe n c l0 c0 l1 c1 l2 c2 ne ce bud F F0 F1 F2 St Ln Up M W hM h hb hc
end
end Go.Proofs.YtdhdknjefjolpaaDoor
end
