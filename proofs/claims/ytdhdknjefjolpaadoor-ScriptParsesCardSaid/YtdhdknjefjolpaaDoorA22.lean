/-
  The texts Sc53 of the proofs about scripts, as one file (they are merged by a program).
-/
import Derived.Test.YtdhdknjefjolpaaDoorA21
section
/-
  gannetlaw33: ScriptParses.
-/
namespace Go.Proofs.YtdhdknjefjolpaaDoor
set_option linter.unusedSimpArgs false
set_option linter.unusedVariables false
set_option maxRecDepth 10000
open Go.RowKit Go.Shelf Pl
open Classical in
theorem parV_ed {l : List UInt8} {p b : Nat} {T : Tl} (h : parV l = .inr (p, b, T)) : T.ed.length ≤ 1000 := by
  unfold parV at h
  split at h
  · cases h
  · split at h
    · unfold parW at h
      split at h
      · rename_i p' b' _ _
        split at h
        · split at h
          · cases h
          · rename_i hc
            have e : p' = p ∧ b' = b ∧ (parG T0 0 [] l).2.2 = T := by
              injection h with h
              exact ⟨(Prod.mk.inj h).1, (Prod.mk.inj (Prod.mk.inj h).2).1, (Prod.mk.inj (Prod.mk.inj h).2).2⟩
            rw [← e.2.2]
            have hc : (chkT (parG T0 0 [] l).2.2 p' b').1 = 0 := by simpa using hc
            unfold chkT chkS at hc
            rcases Nat.lt_or_ge 1000 (parG T0 0 [] l).2.2.ed.length with g | g
            · exfalso
              have hv : chkV (edSt (parG T0 0 [] l).2.2.ed) (edLn (parG T0 0 [] l).2.2.ed) (parG T0 0 [] l).2.2.ed.length = (2, 1000) := by unfold chkV; rw [if_pos g]
              rw [hv] at hc
              split at hc
              · rename_i h6
                exact h6 hc
              · simp at hc
            · exact g
        · cases h
      · cases h
    · cases h
/-- An answer to a text, whichever it is. -/
theorem parOut_uni (l : List UInt8) : ∃ (n l0 l1 l2 ne : Nat) (bud f1 f2 : Int) (G G0 G1 G2 St : Nat → Int) (Ln : Nat → Nat) (Up : Nat → Bool), ∀ (e : Ending) (W : World), ParOut (parV l) e W →
    ∃ (o : Option Addr) (c : Nat) (o0 : Option Addr) (c0 : Nat) (o1 : Option Addr) (c1 : Nat) (o2 : Option Addr) (c2 : Nat) (oe : Option Addr) (ce : Nat), e = .returned (.tuple #[.agg #[.slice o n c, .slice o0 l0 c0, .slice o1 l1 c1, .slice o2 l2 c2, .slice oe ne ce, .int .i64 bud], .agg #[.int .i64 f1, .int .i64 f2]]) ∧
      NumsAt W .u8 o n G ∧ NumsAt W .u8 o0 l0 G0 ∧ NumsAt W .u8 o1 l1 G1 ∧ NumsAt W .u8 o2 l2 G2 ∧ EdgB W oe ne St Ln Up W.heap.size ∧ n ≤ maxLen ∧ l0 ≤ maxLen ∧ l1 ≤ maxLen ∧ l2 ≤ maxLen ∧ ne ≤ maxLen := by
  cases hv : parV l with
  | inl f =>
    refine ⟨0, 0, 0, 0, 0, 0, (f.1 : Int), (f.2 : Int), fun _ => 0, fun _ => 0, fun _ => 0, fun _ => 0, fun _ => 0, fun _ => 0, fun _ => false, fun e W h => ?_⟩
    exact ⟨none, 0, none, 0, none, 0, none, 0, none, 0, h, fun i hi => (Nat.not_lt_zero i hi).elim, fun i hi => (Nat.not_lt_zero i hi).elim, fun i hi => (Nat.not_lt_zero i hi).elim, fun i hi => (Nat.not_lt_zero i hi).elim, fun i hi => (Nat.not_lt_zero i hi).elim, Nat.zero_le _, Nat.zero_le _, Nat.zero_le _, Nat.zero_le _, Nat.zero_le _⟩
  | inr x =>
    obtain ⟨p, b, T⟩ := x
    have hed := parV_ed hv
    refine ⟨p * 8192, T.f0.length, T.f1.length, T.f2.length, T.ed.length, (b : Int), 0, 0, romF T.ps, byF T.f0, byF T.f1, byF T.f2, edSt T.ed, edLn T.ed, edUp T.ed, fun e W h => ?_⟩
    obtain ⟨o, c, o0, c0, o1, c1, o2, c2, oe, ce, h0, h1, h2, h3, h4, h5, h6, h7, h8⟩ := h
    have hm : maxLen = 9223372036854775807 := rfl
    exact ⟨o, c, o0, c0, o1, c1, o2, c2, oe, ce, h0, h1, h2, h3, h4, h5, by omega, by have := h6.2.1; omega, by have := h6.2.2.1; omega, by have := h6.2.2.2; omega, by omega⟩
set_option maxRecDepth 100000 in
set_option maxHeartbeats 16000000 in
theorem parses_law (l : List UInt8) (M : Int) (w : World) (hl : l.length ≤ maxLen) (hM : w.cell? ⟨0, 0, none⟩ = some (.int .i64 M)) :
    Calls Tryd.prog 4 #[.string ⟨l.toArray⟩] w fun e w' => e = .returned (.bool true) ∧ Below w.heap.size w w' := by
  have hlv := live33_calls M w hM
  have hMl : (⟨0, 0, none⟩ : Addr).block < w.heap.size := cell_lt hM
  have hls := strS l
  have hl2 := hl
  unfold maxLen at hl2
  by_cases hmid : 4000 < l.length ∧ l.length ≤ 200000
  · have i1 : (4000 : Int) < (l.length : Int) := by omega
    have i2 : (l.length : Int) ≤ 200000 := by omega
    clear hl
    generalize l.length = n at *
    go_enter Tryd.func4, Tryd.ntmps4
    go_wp2_with fail
    with_reducible refine hlv.mono ?_
    clear hlv
    rintro e w1 ⟨rfl, hb1⟩
    go_wp2_with fail
    go_ret
    exact ⟨rfl, hb1⟩
  · have key : ((decide ((4000 : Int) < (l.length : Int))) = false ∨ (4000 : Int) < (l.length : Int) ∧ (decide ((l.length : Int) ≤ 200000)) = false) → Calls Tryd.prog 4 #[.string ⟨l.toArray⟩] w fun e w' => e = .returned (.bool true) ∧ Below w.heap.size w w' := by
      intro hpre
      obtain ⟨n, l0, l1, l2, ne, bud, f1, f2, G, G0, G1, G2, St, Ln, Up, huni⟩ := parOut_uni l
      have hp1 : ∀ W, W.cell? ⟨0, 0, none⟩ = some (.int .i64 M) → Calls Tryd.prog 12 #[.string ⟨l.toArray⟩] W fun e w' => Below W.heap.size W w' ∧ ParOut (parV l) e w' := fun W h => pParse_calls l M W hl h
      have hp2 : ∀ W, Calls Tryd.prog 13 #[.string ⟨l.toArray⟩] W fun e w' => Below W.heap.size W w' ∧ ParOut (parV l) e w' := fun W => rParse_calls l W hl
      generalize parV l = V at *
      clear hl hl2 hmid
      generalize l.length = k at *
      rcases hpre with z1 | ⟨z1, z2⟩
      all_goals
        go_enter Tryd.func4, Tryd.ntmps4
        go_wp2_with fail
        with_reducible refine hlv.mono ?_
        clear hlv
        rintro e w1 ⟨rfl, hb1⟩
        have hM1 := (hb1.cell (p := ⟨0, 0, none⟩) hMl).trans hM
        go_wp2_with fail
        with_reducible refine (hp1 _ hM1).mono ?_
        clear hp1 hM1
        rintro e w2 ⟨hb2, hO⟩
        obtain ⟨o, c, o0, c0, o1, c1, o2, c2, oe, ce, rfl, f, g0, g1, g2, hE, m0, m1, m2, m3, m4⟩ := huni _ _ hO
        have hb02 := hb1.trans (hb2.mono hb1.size)
        have hF : Blk ((w2.alloc (.cells #[Value.slice none 0 0, .slice none 0 0, .slice none 0 0, .slice none 0 0, .slice none 0 0, .int .i64 0] 27)).alloc (.cells #[Value.int .i64 0, Value.int .i64 0] 34)) (w2.heap.size + 1) 34 #[Value.int .i64 0, Value.int .i64 0] := Blk.newAt (by simp)
        have hZ : Blk ((w2.alloc (.cells #[Value.slice none 0 0, .slice none 0 0, .slice none 0 0, .slice none 0 0, .slice none 0 0, .int .i64 0] 27)).alloc (.cells #[Value.int .i64 0, Value.int .i64 0] 34)) w2.heap.size 27 #[Value.slice none 0 0, .slice none 0 0, .slice none 0 0, .slice none 0 0, .slice none 0 0, .int .i64 0] := (Blk.new _ _ _).alloc _
        have hF8 := hF.setRow_far (g' := w2.heap.size) (by omega) #[Value.slice o n c, Value.slice o0 l0 c0, Value.slice o1 l1 c1, Value.slice o2 l2 c2, Value.slice oe ne ce, Value.int .i64 bud]
        have HS8 : Hid (Blk ((((w2.alloc (.cells #[Value.slice none 0 0, .slice none 0 0, .slice none 0 0, .slice none 0 0, .slice none 0 0, .int .i64 0] 27)).alloc (.cells #[Value.int .i64 0, Value.int .i64 0] 34)).setRow w2.heap.size #[Value.slice o n c, Value.slice o0 l0 c0, Value.slice o1 l1 c1, Value.slice o2 l2 c2, Value.slice oe ne ce, Value.int .i64 bud]).setRow (w2.heap.size + 1) #[Value.int .i64 f1, Value.int .i64 f2]) w2.heap.size 27 #[Value.slice o n c, Value.slice o0 l0 c0, Value.slice o1 l1 c1, Value.slice o2 l2 c2, Value.slice oe ne ce, Value.int .i64 bud]) := (hZ.setRow #[Value.slice o n c, Value.slice o0 l0 c0, Value.slice o1 l1 c1, Value.slice o2 l2 c2, Value.slice oe ne ce, Value.int .i64 bud]).setRow_far (by omega) _
        have HF9 : Hid (Blk ((((w2.alloc (.cells #[Value.slice none 0 0, .slice none 0 0, .slice none 0 0, .slice none 0 0, .slice none 0 0, .int .i64 0] 27)).alloc (.cells #[Value.int .i64 0, Value.int .i64 0] 34)).setRow w2.heap.size #[Value.slice o n c, Value.slice o0 l0 c0, Value.slice o1 l1 c1, Value.slice o2 l2 c2, Value.slice oe ne ce, Value.int .i64 bud]).setRow (w2.heap.size + 1) #[Value.int .i64 f1, Value.int .i64 f2]) (w2.heap.size + 1) 34 #[Value.int .i64 f1, Value.int .i64 f2]) := hF8.setRow #[Value.int .i64 f1, Value.int .i64 f2]
        have HB2 : Hid (Below w2.heap.size w2 ((((w2.alloc (.cells #[Value.slice none 0 0, .slice none 0 0, .slice none 0 0, .slice none 0 0, .slice none 0 0, .int .i64 0] 27)).alloc (.cells #[Value.int .i64 0, Value.int .i64 0] 34)).setRow w2.heap.size #[Value.slice o n c, Value.slice o0 l0 c0, Value.slice o1 l1 c1, Value.slice o2 l2 c2, Value.slice oe ne ce, Value.int .i64 bud]).setRow (w2.heap.size + 1) #[Value.int .i64 f1, Value.int .i64 f2])) := below_setRow (below_setRow (Bl.alloc (Bl.alloc (Below.refl _ _) _) _) (Nat.le_refl _) _) (by omega) _
        have HA : Hid (NumsAt w2 .u8 o n G ∧ NumsAt w2 .u8 o0 l0 G0 ∧ NumsAt w2 .u8 o1 l1 G1 ∧ NumsAt w2 .u8 o2 l2 G2 ∧ EdgB w2 oe ne St Ln Up w2.heap.size) := ⟨f, g0, g1, g2, hE⟩
        have HM5 : Hid (n ≤ maxLen ∧ l0 ≤ maxLen ∧ l1 ≤ maxLen ∧ l2 ≤ maxLen ∧ ne ≤ maxLen) := ⟨m0, m1, m2, m3, m4⟩
        clear hb1 hb2 hO f g0 g1 g2 hE m0 m1 m2 m3 m4 hF
        go_wp2_with (first | (refine wpList_store_row rfl 27 _ _ rfl w2.heap.size #[Value.slice o n c, Value.slice o0 l0 c0, Value.slice o1 l1 c1, Value.slice o2 l2 c2, Value.slice oe ne ce, Value.int .i64 bud] rfl rfl 27 _ hZ (by kernel_rfl) rfl (by kernel_rfl) ?_) | (refine wpList_store_row rfl 34 _ _ rfl (w2.heap.size + 1) #[Value.int .i64 f1, Value.int .i64 f2] rfl rfl 34 _ hF8 (by kernel_rfl) rfl (by kernel_rfl) ?_))
        have hS := HS8.out
        have hF9 := HF9.out
        have hB3 := HB2.out
        clear hZ hF8 HS8 HF9 HB2
        generalize (((w2.alloc (.cells #[Value.slice none 0 0, .slice none 0 0, .slice none 0 0, .slice none 0 0, .slice none 0 0, .int .i64 0] 27)).alloc (.cells #[Value.int .i64 0, Value.int .i64 0] 34)).setRow w2.heap.size #[Value.slice o n c, Value.slice o0 l0 c0, Value.slice o1 l1 c1, Value.slice o2 l2 c2, Value.slice oe ne ce, Value.int .i64 bud]).setRow (w2.heap.size + 1) #[Value.int .i64 f1, Value.int .i64 f2] = w3 at *
        have hsz2 := hb02.size
        generalize hg2 : w2.heap.size = q2 at *
        have hq2 : w2.heap.size ≤ q2 := by omega
        have HG2 := hide hg2
        clear hg2
        with_reducible refine (hp2 _).mono ?_
        clear hp2
        rintro e w4 ⟨hb4, hO⟩
        obtain ⟨p, d, p0, d0, p1, d1, p2, d2, pe, de, rfl, f', g0', g1', g2', hE', _⟩ := huni _ _ hO
        have hS4 : Blk w4 q2 27 #[Value.slice o n c, Value.slice o0 l0 c0, Value.slice o1 l1 c1, Value.slice o2 l2 c2, Value.slice oe ne ce, Value.int .i64 bud] := hS.below hb4 hS.lt
        have hF4 : Blk w4 (q2 + 1) 34 #[Value.int .i64 f1, Value.int .i64 f2] := hF9.below hb4 hF9.lt
        have hX : Blk ((w4.alloc (.cells #[Value.slice none 0 0, .slice none 0 0, .slice none 0 0, .slice none 0 0, .slice none 0 0, .int .i64 0] 27)).alloc (.cells #[Value.int .i64 0, Value.int .i64 0] 34)) w4.heap.size 27 #[Value.slice none 0 0, .slice none 0 0, .slice none 0 0, .slice none 0 0, .slice none 0 0, .int .i64 0] := (Blk.new _ _ _).alloc _
        have hY : Blk ((w4.alloc (.cells #[Value.slice none 0 0, .slice none 0 0, .slice none 0 0, .slice none 0 0, .slice none 0 0, .int .i64 0] 27)).alloc (.cells #[Value.int .i64 0, Value.int .i64 0] 34)) (w4.heap.size + 1) 34 #[Value.int .i64 0, Value.int .i64 0] := Blk.newAt (by simp)
        have hY8 := hY.setRow_far (g' := w4.heap.size) (by omega) #[Value.slice p n d, Value.slice p0 l0 d0, Value.slice p1 l1 d1, Value.slice p2 l2 d2, Value.slice pe ne de, Value.int .i64 bud]
        have hb5 : Below w4.heap.size w4 ((((w4.alloc (.cells #[Value.slice none 0 0, .slice none 0 0, .slice none 0 0, .slice none 0 0, .slice none 0 0, .int .i64 0] 27)).alloc (.cells #[Value.int .i64 0, Value.int .i64 0] 34)).setRow w4.heap.size #[Value.slice p n d, Value.slice p0 l0 d0, Value.slice p1 l1 d1, Value.slice p2 l2 d2, Value.slice pe ne de, Value.int .i64 bud]).setRow (w4.heap.size + 1) #[Value.int .i64 f1, Value.int .i64 f2]) := below_setRow (below_setRow (Bl.alloc (Bl.alloc (Below.refl _ _) _) _) (Nat.le_refl _) _) (by omega) _
        have hX9 : Blk ((((w4.alloc (.cells #[Value.slice none 0 0, .slice none 0 0, .slice none 0 0, .slice none 0 0, .slice none 0 0, .int .i64 0] 27)).alloc (.cells #[Value.int .i64 0, Value.int .i64 0] 34)).setRow w4.heap.size #[Value.slice p n d, Value.slice p0 l0 d0, Value.slice p1 l1 d1, Value.slice p2 l2 d2, Value.slice pe ne de, Value.int .i64 bud]).setRow (w4.heap.size + 1) #[Value.int .i64 f1, Value.int .i64 f2]) w4.heap.size 27 #[Value.slice p n d, Value.slice p0 l0 d0, Value.slice p1 l1 d1, Value.slice p2 l2 d2, Value.slice pe ne de, Value.int .i64 bud] := (hX.setRow #[Value.slice p n d, Value.slice p0 l0 d0, Value.slice p1 l1 d1, Value.slice p2 l2 d2, Value.slice pe ne de, Value.int .i64 bud]).setRow_far (by omega) _
        have hY9 : Blk ((((w4.alloc (.cells #[Value.slice none 0 0, .slice none 0 0, .slice none 0 0, .slice none 0 0, .slice none 0 0, .int .i64 0] 27)).alloc (.cells #[Value.int .i64 0, Value.int .i64 0] 34)).setRow w4.heap.size #[Value.slice p n d, Value.slice p0 l0 d0, Value.slice p1 l1 d1, Value.slice p2 l2 d2, Value.slice pe ne de, Value.int .i64 bud]).setRow (w4.heap.size + 1) #[Value.int .i64 f1, Value.int .i64 f2]) (w4.heap.size + 1) 34 #[Value.int .i64 f1, Value.int .i64 f2] := hY8.setRow #[Value.int .i64 f1, Value.int .i64 f2]
        have hS9 : Blk ((((w4.alloc (.cells #[Value.slice none 0 0, .slice none 0 0, .slice none 0 0, .slice none 0 0, .slice none 0 0, .int .i64 0] 27)).alloc (.cells #[Value.int .i64 0, Value.int .i64 0] 34)).setRow w4.heap.size #[Value.slice p n d, Value.slice p0 l0 d0, Value.slice p1 l1 d1, Value.slice p2 l2 d2, Value.slice pe ne de, Value.int .i64 bud]).setRow (w4.heap.size + 1) #[Value.int .i64 f1, Value.int .i64 f2]) q2 27 #[Value.slice o n c, Value.slice o0 l0 c0, Value.slice o1 l1 c1, Value.slice o2 l2 c2, Value.slice oe ne ce, Value.int .i64 bud] := hS4.below hb5 hS4.lt
        have hF10 : Blk ((((w4.alloc (.cells #[Value.slice none 0 0, .slice none 0 0, .slice none 0 0, .slice none 0 0, .slice none 0 0, .int .i64 0] 27)).alloc (.cells #[Value.int .i64 0, Value.int .i64 0] 34)).setRow w4.heap.size #[Value.slice p n d, Value.slice p0 l0 d0, Value.slice p1 l1 d1, Value.slice p2 l2 d2, Value.slice pe ne de, Value.int .i64 bud]).setRow (w4.heap.size + 1) #[Value.int .i64 f1, Value.int .i64 f2]) (q2 + 1) 34 #[Value.int .i64 f1, Value.int .i64 f2] := hF4.below hb5 hF4.lt
        have hq := run_eql_fault f1 f2
        have HB5 := hide hb5
        have HA2 : Hid (NumsAt w4 .u8 p n G ∧ NumsAt w4 .u8 p0 l0 G0 ∧ NumsAt w4 .u8 p1 l1 G1 ∧ NumsAt w4 .u8 p2 l2 G2 ∧ EdgB w4 pe ne St Ln Up w4.heap.size) := ⟨f', g0', g1', g2', hE'⟩
        have HB4 := hide hb4
        have HB3 := hide hB3
        clear hb4 hb5 hB3 f' g0' g1' g2' hE' hO hY huni hS hF9 hS4 hF4
        go_wp2_with (first | (refine wpList_store_row rfl 27 _ _ rfl w4.heap.size #[Value.slice p n d, Value.slice p0 l0 d0, Value.slice p1 l1 d1, Value.slice p2 l2 d2, Value.slice pe ne de, Value.int .i64 bud] rfl rfl 27 _ hX (by kernel_rfl) rfl (by kernel_rfl) ?_) | (refine wpList_store_row rfl 34 _ _ rfl (w4.heap.size + 1) #[Value.int .i64 f1, Value.int .i64 f2] rfl rfl 34 _ hY8 (by kernel_rfl) rfl (by kernel_rfl) ?_) | (refine wpList_load_row rfl 34 _ rfl (q2 + 1) rfl _ #[Value.int .i64 f1, Value.int .i64 f2] (0, 0) _ hF10 Tryd.underlying34 rfl (by kernel_rfl) ?_) | (refine wpList_load_row rfl 34 _ rfl (w4.heap.size + 1) rfl _ #[Value.int .i64 f1, Value.int .i64 f2] (0, 0) _ hY9 Tryd.underlying34 rfl (by kernel_rfl) ?_) | (refine wpList_load_rowg (by rfl) 27 _ rfl q2 rfl _ #[Value.slice o n c, Value.slice o0 l0 c0, Value.slice o1 l1 c1, Value.slice o2 l2 c2, Value.slice oe ne ce, Value.int .i64 bud] (0, 0) _ hS9 Tryd.underlying27 rfl (by kernel_rfl) ?_) | (refine wpList_load_rowg (by rfl) 27 _ rfl w4.heap.size rfl _ #[Value.slice p n d, Value.slice p0 l0 d0, Value.slice p1 l1 d1, Value.slice p2 l2 d2, Value.slice pe ne de, Value.int .i64 bud] (0, 0) _ hX9 Tryd.underlying27 rfl (by kernel_rfl) ?_))
        obtain ⟨f, g0, g1, g2, hE⟩ := HA.out
        obtain ⟨f', g0', g1', g2', hE'⟩ := HA2.out
        obtain ⟨m0, m1, m2, m3, m4⟩ := HM5.out
        have hb4 := HB4.out
        have hb5 := HB5.out
        have hb3 := HB3.out
        have hb34 := hb4.trans (hb5.mono hb4.size)
        have hs3 : q2 ≤ w3.heap.size := by have h1 := hb3.size; have h2 := HG2.out; omega
        have hbA := hb3.trans (hb34.mono hs3)
        have hsX := hbA.size
        have hg3 := HG2.out
        with_reducible refine (same_calls o o0 o1 o2 oe p p0 p1 p2 pe n c l0 c0 l1 c1 l2 c2 ne ce d d0 d1 d2 de bud G G0 G1 G2 St Ln Up _ m0 m1 m2 m3 m4 (f.below hbA hq2) (g0.below hbA hq2) (g1.below hbA hq2) (g2.below hbA hq2) (f'.below hb5 (Nat.le_refl _)) (g0'.below hb5 (Nat.le_refl _)) (g1'.below hb5 (Nat.le_refl _)) (g2'.below hb5 (Nat.le_refl _)) ((hE.below hbA (Nat.le_refl _)).mono (by omega)) ((hE'.low hb5).mono hb5.size)).mono ?_
        rintro e w6 ⟨rfl, hb6⟩
        go_wp2_with fail
        go_ret
        have hb06 := hb02.trans (hbA.mono hsz2)
        exact ⟨rfl, hb06.trans (hb6.mono hb06.size)⟩
    rcases Nat.lt_or_ge 4000 l.length with h | h
    · exact key (Or.inr ⟨by omega, decide_eq_false (by omega)⟩)
    · exact key (Or.inl (decide_eq_false (by omega)))
section
open Go.ChangeShapes Go.WideShapes Go.ChangeAt
theorem walk_ScriptParses {H : Type} {enc : TypeId × Value → H} {W : World} {base : Nat} {v0 : Value} {d0 : DataW H} {p0 : List MemPlace}
    (hsh : W.ShapedOpen Tryd.prog) (hv0 : Value.okWide Tryd.prog W .any base 9 v0) (hd0 : DataW.Trod enc Tryd.prog W 0 (fun _ => true) true 9 v0 d0 p0) :
    Calls Tryd.prog 4 #[v0] W fun e W' => e = .returned (.bool true) ∧ Below W.heap.size W W' := by
  obtain ⟨M, hM⟩ := maxLen_cell hsh
  obtain ⟨s0, rfl, h0⟩ := open_str Tryd.underlying9 hv0 hd0
  exact parses_law s0.data.toList M W (by rw [ba_len]; exact h0) hM
end
end Go.Proofs.YtdhdknjefjolpaaDoor
end
