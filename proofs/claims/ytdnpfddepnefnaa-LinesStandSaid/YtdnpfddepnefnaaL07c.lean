/-
  gannetlaw07: LinesGo, LinesStand.
-/
import Derived.Test.YtdnpfddepnefnaaL07b
namespace Go.Proofs.Ytdnpfddepnefnaa
open Go.RowKit

theorem toE_spec {St : Nat → Int} {Ln : Nat → Nat} {Up : Nat → Bool} {t : Int} : ∀ (m s : Nat) (r : Bool), (∀ i, s ≤ i → i < (toE St Ln Up t m s r).1 → St i ≤ t) ∧ ((toE St Ln Up t m s r).1 < s + m → t < St (toE St Ln Up t m s r).1)
  | 0, s, r => ⟨fun i h1 h2 => by have h2 : i < s := h2; omega, fun h => by have h : s < s + 0 := h; omega⟩
  | m + 1, s, r => by
    unfold toE
    by_cases h : St s ≤ t
    · rw [if_pos h]
      have ih := toE_spec (St := St) (Ln := Ln) (Up := Up) (t := t) m (s + 1) (r || rsE Ln Up s)
      refine ⟨fun i h1 h2 => ?_, fun hx => ih.2 (by omega)⟩
      by_cases e : i = s
      · rw [e]; exact h
      · exact ih.1 i (by omega) h2
    · rw [if_neg h]
      exact ⟨fun i h1 h2 => by have h2 : i < s := h2; omega, fun _ => by show t < St s; omega⟩
theorem atE_spec {St : Nat → Int} {Ln : Nat → Nat} {Up : Nat → Bool} {line : Nat} {t : Int} {s : Nat} : ∀ (m i : Nat), i ≤ s → s ≤ i + m → (∀ j, i ≤ j → j < s → St j ≤ t) → (s < i + m → t < St s) → atE St Ln Up line t m i (upE Ln Up line i) = upE Ln Up line s
  | 0, i, h1, h2, _, _ => by
    obtain rfl : i = s := by omega
    rfl
  | m + 1, i, h1, h2, h3, h4 => by
    show (if t < St i then upE Ln Up line i else atE St Ln Up line t m (i + 1) (if Ln i = line then Up i else upE Ln Up line i)) = _
    by_cases e : i = s
    · subst e
      rw [if_pos (h4 (by omega))]
    · have := h3 i (by omega) (by omega)
      rw [if_neg (by omega)]
      exact atE_spec m (i + 1) (by omega) (by omega) (fun j h5 h6 => h3 j (by omega) h6) (fun h5 => h4 (by omega))
/-- s edges are those up to t. -/
def Gone (n : Nat) (St : Nat → Int) (s : Nat) (t : Int) : Prop := (∀ i, i < s → St i ≤ t) ∧ (s < n → t < St s)
theorem Gone.at {n : Nat} {St : Nat → Int} {Ln : Nat → Nat} {Up : Nat → Bool} {line s : Nat} {t : Int} (h : Gone n St s t) (hs : s ≤ n) : atE St Ln Up line t n 0 false = upE Ln Up line s :=
  atE_spec n 0 (by omega) (by omega) (fun j _ h2 => h.1 j h2) (fun h5 => h.2 (by omega))
theorem Gone.to {n : Nat} {St : Nat → Int} {Ln : Nat → Nat} {Up : Nat → Bool} {s : Nat} {t u v : Int} {r : Bool} (h : Gone n St s t) (hs : s ≤ n) (hv : v = if t < u then u else t) : Gone n St (toE St Ln Up u (n - s) s r).1 v := by
  have hsp := toE_spec (St := St) (Ln := Ln) (Up := Up) (t := u) (n - s) s r
  have hle := toE_le (St := St) (Ln := Ln) (Up := Up) (stamp := u) (n - s) s r
  generalize (toE St Ln Up u (n - s) s r).1 = s' at *
  by_cases e : t < u
  · rw [if_pos e] at hv
    subst hv
    refine ⟨fun i hi => ?_, fun hx => hsp.2 (by omega)⟩
    by_cases e2 : i < s
    · have := h.1 i e2; omega
    · exact hsp.1 i (by omega) hi
  · rw [if_neg e] at hv
    subst hv
    have e3 : s' = s := by
      rcases Nat.eq_or_lt_of_le hle.1 with h3 | h3
      · exact h3.symm
      · have h4 := hsp.1 s (Nat.le_refl _) h3
        have h5 := h.2 (by omega)
        omega
    rw [e3]
    exact h
set_option maxRecDepth 100000 in
set_option maxHeartbeats 4000000 in
theorem linesStand_calls (o : Option Addr) (n c : Nat) (St : Nat → Int) (Ln : Nat → Nat) (Up : Nat → Bool) (a : Option Addr) (m ca : Nat) (T : Nat → Int) (line : Nat) (w : World) (hn0 : n ≤ maxLen) (hE : EdgB w o n St Ln Up w.heap.size) (hS : NumsB w .i64 a m T w.heap.size) :
    Calls Try.prog 6 #[.slice o n c, .slice a m ca, .int .u8 (line : Int)] w fun e w' => e = .returned (.bool true) ∧ Below w.heap.size w w' := by
  have hbs : ∀ u : Bool, (u != u) = false := fun u => bne_self_eq_false u
  by_cases h1 : 60 < m
  · have i1 : (60 : Int) < (m : Int) := by omega
    go_enter Try.func6, Try.ntmps6
    (go_wp2_with fail; refine Cl.m (live07_calls _) ?_; intro w1 hb1)
    (go_wp2_with fail; go_ret; exact ⟨rfl, by (repeat (first | exact Below.refl _ _ | assumption | refine Below.drew ?_ | refine Bl.alloc ?_ _ | refine below_drewN ?_ _ | refine Bl.chain ?_ (by assumption) (Nat.le_refl _)))⟩)
  · have i1 : (decide ((60 : Int) < (m : Int))) = false := by rw [decide_eq_false_iff_not]; omega
    have hm : m ≤ 60 := by omega
    clear h1
    go_enter Try.func6, Try.ntmps6
    (go_wp2_with fail; refine Cl.m (live07_calls _) ?_; intro w1 hb1)
    have hE1 : EdgB w1 o n St Ln Up w1.heap.size := (hE.below hb1 (Nat.le_refl _)).mono hb1.size
    obtain ⟨p, hp⟩ : ∃ p, chkV St Ln n = p := ⟨_, rfl⟩
    obtain ⟨p1, p2⟩ := p
    by_cases h0 : p1 = 0
    · have hnl := chkV_nil (St := St) (Ln := Ln) (n := n) (by rw [hp]; exact h0)
      have hok := chkV_ok hnl.1
      clear hp
      go_wp2_with fail
      refine (lnNew_calls o n c St Ln Up w1 hE1 (by rw [hnl.1]) hnl.2).mono ?_
      rintro e w2 ⟨g, o', c', rfl, hL2, hG2, hg, hb2⟩
      have hb02 := hb1.trans (hb2.mono hb1.size)
      have hs1 := hb1.size
      have hz2 : Blk (w2.alloc (.cells #[.int .i64 0, .int .i64 0] 26)) w2.heap.size 26 #[.int .i64 0, .int .i64 0] := Blk.new _ _ _
      have hF3 : Blk (w2.alloc (.cells (fltA (0, 0)) 26)) w2.heap.size 26 (fltA (0, 0)) := Blk.new _ _ _
      have hL3 : LB (w2.alloc (.cells (fltA (0, 0)) 26)) g o' n c' 0 Ln Up false := Blk.alloc hL2 _
      have hf3 : Only (fun _ => False) w2 (w2.alloc (.cells (fltA (0, 0)) 26)) := (Only.refl _ _).alloc _
      have hb03 : Below w.heap.size w (w2.alloc (.cells (fltA (0, 0)) 26)) := hb02.alloc hb02.size _
      have q0 : (w2.alloc (.cells (fltA (0, 0)) 26)).cell? ⟨w2.heap.size, 0, none⟩ = some (.int .i64 0) := hF3.cell 0
      go_wp2_with (refine wpList_store_row rfl 26 _ _ rfl w2.heap.size _ rfl rfl 26 _ hz2 (by kernel_rfl) rfl (by kernel_rfl) ?_; rw [setRow_new])
      generalize w2.alloc (.cells (fltA (0, 0)) 26) = w3 at *
      have hG3 := hG2.only hf3 (fun _ _ e => e)
      clear hz2 hL2 hG2 hE1 hF3
      have hne : 0 < n → ∀ x, o' = some x → x.block ≠ g := fun h0 x hx => by
        obtain ⟨b, off, ha, hlt, _⟩ := hG3 0 h0
        rw [hx] at ha
        cases ha
        simp
        omega
      go_wp2_with fail
      go_loopw [9, 10] (fun l i wr => ∃ (j s' : Nat) (r' : Bool) (t : Int), j ≤ m ∧ s' ≤ n ∧ i = .int .i64 (j : Int) ∧ l = .int .i64 t ∧ Gone n St s' t ∧ LB wr g o' n c' s' Ln Up r' ∧ EdgB wr o' n St Ln Up g ∧ Below w.heap.size w wr) (fun _ i _ => m - (intOf i).toNat)
      case atStart => exact ⟨0, 0, false, -1, by omega, by omega, rfl, rfl, ⟨fun i hi => by omega, fun h0 => by have := (hok.2 0 h0).2.1; omega⟩, hL3, hG3, hb03⟩
      case round =>
        obtain ⟨j, s1, r1, t, hj, hs1', rfl, rfl, hgo, hLr, hGr, hbr⟩ := hrel
        by_cases hjm : j < m
        · have hjm' : (j : Int) < (m : Int) := by omega
          obtain ⟨b, off, rfl, hlt, x0⟩ := (hS.only (S := fun k => w.heap.size ≤ k) ⟨hbr.os, hbr.tape, hbr.output, hbr.size, fun j hj hs => hbr.block j (by omega)⟩ (fun j hj e => by omega)) j hjm
          obtain ⟨u, hu⟩ : ∃ u, T j = u := ⟨_, rfl⟩
          rw [hu] at x0
          have hgl := Blk.lt hLr
          go_wp2_with fail
          refine (lnTo_n g o' n c' s1 St Ln Up r1 u _ hok hs1' hLr (hGr.mono (by omega)) hne).mono ?_
          rintro e w4 ⟨⟨_, rfl⟩, hL4, ho4⟩
          have hG4 := hGr.only (S := fun j => j = g) ho4 (fun j hj e => by omega)
          have hb04 := hbr.trans (ho4.below hbr.size (fun j e => by omega))
          have hx4 : w4.cell? ⟨b, off + j, none⟩ = some (.int .i64 u) := (World.cell?_of_block (ho4.block b (cell_lt x0) (by omega))).trans x0
          have hle := toE_le (St := St) (Ln := Ln) (Up := Up) (stamp := u) (n - s1) s1 r1
          obtain ⟨v, hv⟩ : ∃ v : Int, v = if t < u then u else t := ⟨_, rfl⟩
          have hgo' := hgo.to (Ln := Ln) (Up := Up) (r := r1) hs1' hv
          generalize toE St Ln Up u (n - s1) s1 r1 = tt at *
          obtain ⟨s2, r2⟩ := tt
          have hs2 : s2 ≤ n := by have := hle.2; dsimp only at this; omega
          have hL4 : LB w4 g o' n c' s2 Ln Up r2 := hL4
          have hgo' : Gone n St s2 v := hgo'
          have hsw4 := ho4.size
          clear hle ho4 hLr hGr x0 hu hgo hbr
          have hat := hgo'.at (Ln := Ln) (Up := Up) (line := line) hs2
          have hup := upK_upE (Up := Up) line s2 hok hs2
          have hc1 := lnUp_calls g o' n c' s2 line Ln Up r2 w4 hL4
          have hc2 := lnAt_calls o n c St Ln Up line v w4 hn0 ((hE.below hb04 (Nat.le_refl _)).mono hb04.size)
          rw [hat, hup] at hc2
          generalize upK Ln Up line s2 = uu at *
          have z5 := hbs uu
          have HG := hide hgo'
          clear hgo' hat hup
          by_cases htu : t < u
          · rw [if_pos htu] at hv
            subst hv
            go_wp2_with fail
            refine Cl.p hc1 ?_
            go_wp2_with fail
            refine Cl.m hc2 ?_
            intro w5 hb5
            go_wp2_with fail
            go_roundw
            case rel => exact ⟨j + 1, s2, r2, v, by omega, hs2, by go_num, rfl, HG.out, Blk.below hL4 hb5 (Blk.lt hL4), hG4.below hb5 (Nat.le_of_lt (Blk.lt hL4)), hb04.trans (hb5.mono hb04.size)⟩
            case measure => simp [intOf]; omega
          · rw [if_neg htu] at hv
            subst hv
            have i2 : (decide (v < u)) = false := decide_eq_false htu
            go_wp2_with fail
            refine Cl.p hc1 ?_
            go_wp2_with fail
            refine Cl.m hc2 ?_
            intro w5 hb5
            go_wp2_with fail
            go_roundw
            case rel => exact ⟨j + 1, s2, r2, v, by omega, hs2, by go_num, rfl, HG.out, Blk.below hL4 hb5 (Blk.lt hL4), hG4.below hb5 (Nat.le_of_lt (Blk.lt hL4)), hb04.trans (hb5.mono hb04.size)⟩
            case measure => simp [intOf]; omega
        · obtain rfl : j = m := by omega
          have i2 : (decide ((j : Int) < (j : Int))) = false := by rw [decide_eq_false_iff_not]; omega
          go_wp2_with fail
          go_ret
          exact ⟨rfl, hbr⟩
    · have hnb := lnNew_bad o n c St Ln Up w1 hE1 (by rw [hp]; exact h0)
      rw [hp] at hnb
      have z3 : ((p1 : Int) != 0) = true := by rw [bne_iff_ne]; omega
      go_wp2_with fail
      refine Cl.m hnb ?_
      intro w2 hb2
      have hb02 := hb1.trans (hb2.mono hb1.size)
      have hz2 : Blk (w2.alloc (.cells #[.int .i64 0, .int .i64 0] 26)) w2.heap.size 26 #[.int .i64 0, .int .i64 0] := Blk.new _ _ _
      have hF3 : Blk (w2.alloc (.cells (fltA (p1, p2)) 26)) w2.heap.size 26 (fltA (p1, p2)) := Blk.new _ _ _
      have hb03 : Below w.heap.size w (w2.alloc (.cells (fltA (p1, p2)) 26)) := hb02.alloc hb02.size _
      have q0 : (w2.alloc (.cells (fltA (p1, p2)) 26)).cell? ⟨w2.heap.size, 0, none⟩ = some (.int .i64 (p1 : Int)) := hF3.cell 0
      go_wp2_with (refine wpList_store_row rfl 26 _ _ rfl w2.heap.size _ rfl rfl 26 _ hz2 (by kernel_rfl) rfl (by kernel_rfl) ?_; rw [setRow_new])
      generalize w2.alloc (.cells (fltA (p1, p2)) 26) = w3 at *
      clear hz2 hF3
      go_wp2_with fail
      go_ret
      exact ⟨rfl, hb03⟩
section
open Go.ChangeShapes Go.WideShapes Go.ChangeAt
variable {H : Type} {enc : TypeId × Value → H} {W : World} {base : Nat}
theorem walk_LinesStand {v0 v1 v2 : Value} {d0 d1 d2 : DataW H} {p0 p1 p2 : List MemPlace}
    (_hsh : W.ShapedOpen Try.prog) (_hsz : (DataW.weightsEach Try.prog [22, 42, 5] [d0, d1, d2]).all (· ≤ reachBytes) = true)
    (hv0 : Value.okWide Try.prog W .any base 22 v0) (hd0 : DataW.Trod enc Try.prog W 0 (fun _ => true) true 22 v0 d0 p0) (hv1 : Value.okWide Try.prog W .any base 42 v1) (hd1 : DataW.Trod enc Try.prog W 0 (fun _ => true) true 42 v1 d1 p1) (hv2 : Value.okWide Try.prog W .any base 5 v2) (hd2 : DataW.Trod enc Try.prog W 0 (fun _ => true) true 5 v2 d2 p2) :
    Calls Try.prog 6 #[v0, v1, v2] W fun e W' => e = .returned (.bool true) ∧ Below W.heap.size W W' := by
  obtain ⟨a0, n0, c0, St, Ln, Up, rfl, hE, hn, _⟩ := open_edges hv0 hd0
  obtain ⟨o1, n1, c1, A1, rfl, hL1, _, hm1, hA1⟩ := open_nums Try.underlying42 Try.underlying2 (by kernel_rfl) hv1 hd1
  obtain ⟨x2, rfl, h2⟩ := open_u8 Try.underlying5 hv2 hd2
  exact linesStand_calls a0 n0 c0 St Ln Up o1 n1 c1 A1 x2 W hn hE (hL1.toB (Nat.le_refl _))
end
end Go.Proofs.Ytdnpfddepnefnaa
