/-
  gannetref04: Pieces.
-/
import Derived.Test.YtafabjmeeccifaaCart5
namespace Go.Proofs.Ytafabjmeeccifaa
open Go.RowKit

theorem lst_succ (n : Nat) (L : Nat → Int) : lst (n + 1) L = lst n L ++ [.int .u8 (L n)] := by
  unfold lst
  rw [List.range_succ, List.map_append]
  rfl
theorem lstP_ext (ps : List (Nat × Nat)) (f e e' : Nat) (bs cp : Nat → Nat) (b c : Nat) :
    (lstP (ps ++ [(f, e)]) bs cp).set (ps.length * 2 + 1) (.slice (some ⟨b, 0, none⟩) (e' - f) c) = lstP (ps ++ [(f, e')]) (fun i => if i = ps.length then b else bs i) (fun i => if i = ps.length then c else cp i) := by
  apply List.ext_getElem?
  intro j
  rw [List.getElem?_set, lstP_get, lstP_get, lstP_length, List.length_append, List.length_append, List.length_singleton, List.length_singleton]
  unfold pieV pA pN
  by_cases h1 : ps.length * 2 + 1 = j
  · rw [if_pos h1, if_pos (by omega), if_pos (by omega), if_neg (by omega), show j / 2 = ps.length from by omega, getD_new]
    dsimp only
    rw [if_pos rfl, if_pos rfl]
  · rw [if_neg h1]
    by_cases hj : j < (ps.length + 1) * 2
    · rw [if_pos hj, if_pos hj]
      by_cases h2 : j < ps.length * 2
      · have hne : j / 2 ≠ ps.length := by omega
        rw [getD_old ps _ (by omega), getD_old ps _ (by omega)]
        dsimp only
        rw [if_neg hne, if_neg hne]
      · rw [if_pos (show j % 2 = 0 by omega), if_pos (show j % 2 = 0 by omega), show j / 2 = ps.length from by omega, getD_new, getD_new]
    · rw [if_neg hj, if_neg hj]
theorem own_cell {w : World} {base n size g cap j : Nat} {e : TypeId} {xs : List Value} {u : Value} (h : w.ownsRow base e size (.slice (some ⟨g, 0, none⟩) n cap) n xs) (hj : xs[j]? = some u) : w.cell? ⟨g, j, none⟩ = some u ∧ w.frozen? ⟨g, j, none⟩ = false := by
  rcases h.2 with ⟨hx, _⟩ | ⟨g', cap', cur', hv, _, hh', _, _, _, ht'⟩
  · cases hx
  · cases hv
    refine ⟨?_, by simp [World.frozen?, hh']⟩
    rw [cell_of_row w g j cur' e (0, 0) hh', ← Array.getElem?_toList]
    rw [← ht'] at hj
    have hlt : j < n * size := by
      rcases Nat.lt_or_ge j (n * size) with hlt | hge
      · exact hlt
      · rw [List.getElem?_eq_none (Nat.le_trans (List.length_take_le _ _) hge)] at hj; cases hj
    rwa [List.getElem?_take_of_lt hlt] at hj
/-- The last piece goes on by one byte. -/
theorem PL.ext {w w2 w1 : World} {base ob gg cap c0 : Nat} {ps : List (Nat × Nat)} {f e : Nat} {F : Nat → Int} {bs cp : Nat → Nat}
    (h1 : w.ownsRow base 46 2 (.slice (some ⟨ob, 0, none⟩) (ps.length + 1) c0) (ps.length + 1) (lstP (ps ++ [(f, e)]) bs cp))
    (h2 : ∀ i, i < (ps ++ [(f, e)]).length → w.ownsRow base 5 1 (.slice (some ⟨bs i, 0, none⟩) (pN (ps ++ [(f, e)]) i) (cp i)) (pN (ps ++ [(f, e)]) i) (lst (pN (ps ++ [(f, e)]) i) (pB F (ps ++ [(f, e)]) i)))
    (h3 : ∀ i j, i < j → j < (ps ++ [(f, e)]).length → bs i ≠ bs j) (hfe : f < e) (hb : Below w.heap.size w w2)
    (hown : w1.ownsRow base 5 1 (.slice (some ⟨gg, 0, none⟩) (e - f + 1) cap) (e - f + 1) (lst (e - f) (fun j => F (f + j)) ++ [.int .u8 (F e)]))
    (hgrow : w2.grownBy w1 (some (bs ps.length))) (hat : bs ps.length = gg ∨ w.heap.size ≤ gg) :
    PL (w1.setCell ⟨ob, ps.length * 2 + 1, none⟩ (.slice (some ⟨gg, 0, none⟩) (e - f + 1) cap)) base (.slice (some ⟨ob, 0, none⟩) (ps.length + 1) c0) (ps ++ [(f, e + 1)]) F := by
  have hl : (ps ++ [(f, e + 1)]).length = ps.length + 1 := by simp
  have hl2 : (ps ++ [(f, e)]).length = ps.length + 1 := by simp
  have hlast := h2 ps.length (by omega)
  have hobk : some ob ≠ some (bs ps.length) := own_type h1 hlast (by decide) rfl
  have h1' : w1.ownsRow base 46 2 (.slice (some ⟨ob, 0, none⟩) (ps.length + 1) c0) (ps.length + 1) (lstP (ps ++ [(f, e)]) bs cp) :=
    own_keep h1 (fun g hg => by
      have hlt := own_lt h1 hg
      cases hg
      exact (hgrow.block ob (Nat.lt_of_lt_of_le hlt hb.size) hobk).trans (hb.block ob hlt))
  have hgo : some gg ≠ some ob := own_type hown h1' (by decide) rfl
  have hgo' : gg ≠ ob := fun e => hgo (by rw [e])
  have hee : e + 1 - f = e - f + 1 := by omega
  refine ⟨fun i => if i = ps.length then gg else bs i, fun i => if i = ps.length then cap else cp i, ?_, fun i hi => ?_, fun i j hij hj => ?_⟩
  · rw [hl, ← lstP_ext ps f e (e + 1) bs cp gg cap, hee]
    exact own_set h1' (by omega) _
  · by_cases ei : i = ps.length
    · subst ei
      unfold pN pB pA
      rw [getD_new]
      dsimp only
      rw [if_pos rfl, if_pos rfl, hee, lst_succ, show f + (e - f) = e from by omega]
      exact own_keep hown (fun g hg => by cases hg; exact Below.heap_setCell _ ⟨ob, _, none⟩ _ _ hgo')
    · have hi' : i < ps.length := by omega
      have h6 := h2 i (by omega)
      have hlt := own_lt h6 (g := bs i) rfl
      have hbo : some (bs i) ≠ some ob := own_type h6 h1 (by decide) rfl
      unfold pN pB pA at h6 ⊢
      rw [getD_old ps _ hi'] at h6 ⊢
      dsimp only
      rw [if_neg ei, if_neg ei]
      refine own_keep h6 (fun g hg => ?_)
      cases hg
      refine ((Below.heap_setCell _ ⟨ob, _, none⟩ _ _ (fun e => hbo (by rw [e]))).trans (hgrow.block _ (Nat.lt_of_lt_of_le hlt hb.size) (fun e => ?_))).trans (hb.block _ hlt)
      injection e with e
      exact h3 i ps.length hi' (by omega) e
  · dsimp only
    have hi : i ≠ ps.length := by omega
    rw [if_neg hi]
    by_cases ej : j = ps.length
    · rw [if_pos ej]
      have hlt := own_lt (h2 i (by omega)) (g := bs i) rfl
      rcases hat with hat | hat
      · rw [← hat]; exact h3 i ps.length (by omega) (by omega)
      · omega
    · rw [if_neg ej]
      exact h3 i j hij (by omega)
set_option maxRecDepth 100000 in
set_option maxHeartbeats 4000000 in
theorem rcPieces_calls (n c : Nat) (o : Option Addr) (F : Nat → Int) (w : World) (hn : n ≤ 1048576) (hL : NumsAt w .u8 o n F) :
    Calls Try.prog 15 #[.slice o n c] w fun e w' => ∃ v, e = .returned v ∧ PL w' w.heap.size v (runsP F n) F ∧ Below w.heap.size w w' := by
  obtain ⟨i0, hi, hz0, hz1, hz2⟩ := info_parts infoU8
  obtain ⟨i1, hi', hy0, hy1, hy2⟩ := info_parts infoPie
  go_enter Try.func15, Try.ntmps15
  go_wp2_with fail
  go_loopw [3, 4] (fun v t wr => ∃ (i : Nat) (V : Value), i ≤ n ∧ V = v ∧ t = .int .i64 (i : Int) ∧ PL wr w.heap.size V (runsP F i) F ∧ Below w.heap.size w wr) (fun _ t _ => n - (intOf t).toNat)
  case atStart => exact ⟨0, _, by omega, rfl, rfl, PL.nil _ _ _, Below.refl _ _⟩
  case round =>
    obtain ⟨i, VV, hin, rfl, rfl, hP, hbr⟩ := hrel

    have hLr : NumsAt wr .u8 o n F := hL.below hbr (Nat.le_refl _)
    by_cases hlt : i < n
    · have hlt' : (i : Int) < (n : Int) := by omega
      obtain ⟨b, off, ho, hbl, hc⟩ := hLr i hlt
      subst ho
      by_cases hz : F i = 0
      · have hr : runsP F (i + 1) = runsP F i := if_pos hz
        rw [← hr] at hP
        have HP := hide hP
        rw [hz] at hc
        clear hP hr hz hLr hL
        go_wp2_with fail
        go_roundw
        case rel => exact ⟨i + 1, _, by omega, rfl, by go_num, HP.out, hbr⟩
        case measure => simp [intOf]; omega
      · have hne : (F i == 0) = false := beq_eq_false_iff_ne.2 hz
        have hbase : w.heap.size ≤ wr.heap.size := hbr.size
        have hlen := runs_len (F := F) i
        by_cases h2 : 0 < i ∧ F (i - 1) ≠ 0
        · -- the last piece goes on
          have hr : runsP F (i + 1) = extL (runsP F i) (i + 1) := (if_neg hz).trans (if_pos h2)
          obtain ⟨ps, f, e, hf⟩ := runs_last i h2.1 h2.2
          rw [e, extL_snoc] at hr
          have HR := hide hr
          rw [e] at hP hlen
          obtain ⟨bs, cp, hown, hby, hdi⟩ := hP
          have hl2 : (ps ++ [(f, i)]).length = ps.length + 1 := by simp
          rw [hl2] at hown
          obtain ⟨ob, c0, rfl, hob, hobl⟩ := hown.form (by omega)
          have hlast := hby ps.length (by omega)
          unfold pN pB pA at hlast
          rw [getD_new] at hlast
          dsimp only at hlast
          have hob2 : some ob ≠ some (bs ps.length) := own_type hown hlast (by decide) rfl
          obtain ⟨x1, x2⟩ := own_cell (j := ps.length * 2 + 1) (u := .slice (some ⟨bs ps.length, 0, none⟩) (i - f) (cp ps.length)) hown (by
            rw [lstP_get, hl2, if_pos (by omega)]
            unfold pieV pN
            rw [if_neg (by omega), show (ps.length * 2 + 1) / 2 = ps.length from by omega, getD_new])
          have hbw2 : Below wr.heap.size wr (wr.drew.alloc (.cells #[.int .u8 (F i)] 5)) := (Below.drew (Below.refl _ _)).alloc (Nat.le_refl _) _
          have hlast2 := own_keep hlast (fun g' hg' => hbw2.block g' (own_lt hlast hg'))
          have y1 : (wr.drew.alloc (.cells #[.int .u8 (F i)] 5)).cell? ⟨ob, ps.length * 2 + 1, none⟩ = some (.slice (some ⟨bs ps.length, 0, none⟩) (i - f) (cp ps.length)) := (hbw2.cell (p := ⟨ob, ps.length * 2 + 1, none⟩) hobl).trans x1
          have y2 : (wr.drew.alloc (.cells #[.int .u8 (F i)] 5)).frozen? ⟨ob, ps.length * 2 + 1, none⟩ = false := (hbw2.frozen (p := ⟨ob, ps.length * 2 + 1, none⟩) hobl).trans x2
          have hblk := heap_alloc_new wr.drew (.cells #[.int .u8 (F i)] 5)
          have hs2 := hbw2.size
          obtain ⟨k, hk⟩ : ∃ k, ps.length = k := ⟨_, rfl⟩
          rw [hk] at hown hlast hob2 x1 x2 hlast2 y1 y2 hl2
          have z1 : wr.drew.cell? ⟨ob, k * 2 + 1, none⟩ = some (.slice (some ⟨bs k, 0, none⟩) (i - f) (cp k)) := x1
          have z2 : wr.drew.cell? ⟨b, off + i, none⟩ = some (.int .u8 (F i)) := hc
          obtain ⟨b', off', ho', _, hc'⟩ := hLr (i - 1) (by omega)
          cases ho'
          have hne2 : (F (i - 1) != 0) = true := by rw [bne_iff_ne]; exact h2.2
          have hi0 : (0 : Int) < (i : Int) := by omega
          have hi1 : (i : Int) - 1 = ((i - 1 : Nat) : Int) := by omega
          have hi2 : ((i - 1 : Nat) : Int) < (n : Int) := by omega
          have hk1 : ((k + 1 : Nat) : Int) - 1 = (k : Int) := by omega
          have hk2 : (k : Int) < (k : Int) + 1 := by omega
          obtain ⟨i', hi'e⟩ : ∃ i', i - 1 = i' := ⟨_, rfl⟩
          rw [hi'e] at hc' hne2 hi1 hi2
          have hkn : k ≤ 1048576 := by omega
          have hbase2 : w.heap.size ≤ (wr.drew.alloc (.cells #[.int .u8 (F i)] 5)).heap.size := Nat.le_trans hbase hs2
          have y1' : ((wr.alloc (.cells #[.int .u8 (F i)] 5)).drew).cell? ⟨ob, k * 2 + 1, none⟩ = some (.slice (some ⟨bs k, 0, none⟩) (i - f) (cp k)) := y1
          clear hlast hr hz hLr hL e x1 x2 h2
          go_wp2_with fail
          go_region_law (first
            | (refine step_append_lies _ (by rfl) (.tmp 36) (.tmp 41) 25 (by rfl) w.heap.size 5 i0 _ 1 1 Try.underlying25 hi hz0 hz1 hz2 rfl (by decide) _ (i - f) (lst (i - f) fun j => F (f + j)) (by rfl) hlast2
                ⟨wr.heap.size, 0, none⟩ 1 1 [.int .u8 (F i)] (by rfl) (by rfl) (World.news_of_block (cs := #[.int .u8 (F i)]) (t := 5) (fr := (0, 0)) hblk) (by simp [Value.oneCell'])
                (by omega) (by unfold maxLen; omega) (by omega) hbase2 _ rfl ?_; intro gg cap w1 hown1 hgrow1 hat hlt1; have q1 := grown_cell hgrow1 y1 hob2; have q2 := grown_frozen hgrow1 (p := ⟨ob, k * 2 + 1, none⟩) (Nat.lt_of_lt_of_le hobl hs2) y2 hob2))
          all_goals
            have hP6 : PL (w1.setCell ⟨ob, k * 2 + 1, none⟩ (.slice (some ⟨gg, 0, none⟩) (i - f + 1) cap)) w.heap.size (.slice (some ⟨ob, 0, none⟩) (k + 1) c0) (ps ++ [(f, i + 1)]) F := by
              subst hk
              refine PL.ext (w2 := wr.drew.alloc (.cells #[.int .u8 (F i)] 5)) hown hby hdi hf hbw2 hown1 hgrow1 ?_
              rcases hat with hat | hat
              · left; injection hat
              · right; rw [hat]; exact hs2
            have hb6 : Below w.heap.size w (w1.setCell ⟨ob, k * 2 + 1, none⟩ (.slice (some ⟨gg, 0, none⟩) (i - f + 1) cap)) :=
              ((hbr.trans (hbw2.mono hbase)).grown hgrow1 hbase2 (fun k' hk' => (own_blk hlast2 hk').1)).setCell (p := ⟨ob, k * 2 + 1, none⟩) hob _
            rw [← HR.out] at hP6
            clear hown1 hgrow1 q1 q2 y1 y2 y1' z1 z2 hblk hlast2
            go_wp2_with fail
            go_roundw
            case rel => exact ⟨i + 1, _, by omega, rfl, by go_num, hP6, hb6⟩
            case measure => simp [intOf]; omega
        · have hr : runsP F (i + 1) = runsP F i ++ [(i, i + 1)] := (if_neg hz).trans (if_neg h2)
          have HR := hide hr
          obtain ⟨bs, cp, hown, hby, hdi⟩ := hP
          have hcond : i = 0 ∨ F (i - 1) = 0 := by
            by_cases h0 : i = 0
            · exact Or.inl h0
            · by_cases h1 : F (i - 1) = 0
              · exact Or.inr h1
              · exact absurd ⟨by omega, h1⟩ h2
          have hB4 : Below wr.heap.size wr ((wr.alloc (.cells #[.int .u8 (F i)] 5)).alloc (.cells #[.int .i64 (i : Int), .slice (some ⟨wr.heap.size, 0, none⟩) 1 1] 46)) := ((Below.refl _ _).alloc (Nat.le_refl _) _).alloc (by simp) _
          have hown4 := own_keep hown (fun g' hg' => hB4.block g' (own_lt hown hg'))
          have hrow4 : ((wr.alloc (.cells #[.int .u8 (F i)] 5)).alloc (.cells #[.int .i64 (i : Int), .slice (some ⟨wr.heap.size, 0, none⟩) 1 1] 46)).heap[wr.heap.size]? = some (.cells (rowN 1 (fun j => F (i + j))) 5 (0, 0)) :=
            Blk.alloc (t := 5) (cs := #[.int .u8 (F i)]) (Blk.new _ _ _) _
          have hnew4 := heap_alloc_new (wr.alloc (.cells #[.int .u8 (F i)] 5)) (.cells #[.int .i64 (i : Int), .slice (some ⟨wr.heap.size, 0, none⟩) 1 1] 46)
          have hs4 := hB4.size
          rw [show (wr.alloc (.cells #[.int .u8 (F i)] 5)).heap.size = wr.heap.size + 1 from by simp] at hnew4
          have fin : ∀ gg cap w5, w5.ownsRow w.heap.size 46 2 (.slice (some ⟨gg, 0, none⟩) ((runsP F i).length + 1) cap) ((runsP F i).length + 1) (lstP (runsP F i) bs cp ++ [.int .i64 (i : Int), .slice (some ⟨wr.heap.size, 0, none⟩) 1 1]) →
              World.grownBy ((wr.alloc (.cells #[.int .u8 (F i)] 5)).alloc (.cells #[.int .i64 (i : Int), .slice (some ⟨wr.heap.size, 0, none⟩) 1 1] 46)) w5 (Value.ownBlock VV) →
              PL w5 w.heap.size (.slice (some ⟨gg, 0, none⟩) ((runsP F i).length + 1) cap) (runsP F (i + 1)) F ∧ Below w.heap.size w w5 := fun gg cap w5 hown5 hgrow5 => by
            have hr4 := lst_row (F := fun j => F (i + j)) hrow4 hbase (by decide)
            have e1 : i + 1 - i = 1 := by omega
            refine ⟨?_, (hbr.trans (hB4.mono hbase)).grown hgrow5 (Nat.le_trans hbase hs4) (fun k hk => (own_blk hown4 hk).1)⟩
            rw [HR.out]
            exact PL.snoc (gb := wr.heap.size) (c := 1) (x := (i, i + 1)) (w1 := wr) hown hby hdi hB4 (by show World.ownsRow _ _ _ _ (.slice _ (i + 1 - i) 1) (i + 1 - i) (lst (i + 1 - i) _); rw [e1]; exact hr4) (Nat.le_refl _) hgrow5 (by show w5.ownsRow _ _ _ _ _ (_ ++ [_, .slice _ (i + 1 - i) 1]); rw [e1]; exact hown5)
          have FIN := hide fin
          clear fin hr h2 hz hL hown hby hdi hrow4
          by_cases h0 : i = 0
          · have hi0 : (decide ((0 : Int) < (i : Int))) = false := by rw [decide_eq_false_iff_not]; omega
            have hi0' : (decide (0 < i)) = false := by rw [decide_eq_false_iff_not]; omega
            clear hcond hLr h0
            go_wp2_with (at_builtin; refine Shut.out ?_)
            unfold Shut
            generalize (wr.alloc (.cells #[.int .u8 (F i)] 5)).alloc (.cells #[.int .i64 (i : Int), .slice (some ⟨wr.heap.size, 0, none⟩) 1 1] 46) = w4 at *
            refine wpList_append_lies _ rfl (.tmp 45) (.tmp 53) 22 rfl w.heap.size 46 i1 _ 2 32 Try.underlying22 hi' hy0 hy1 hy2 rfl (by decide) _ (runsP F i).length (lstP (runsP F i) bs cp) rfl hown4 ⟨wr.heap.size + 1, 0, none⟩ 1 1
              [.int .i64 (i : Int), .slice (some ⟨wr.heap.size, 0, none⟩) 1 1] rfl rfl (World.news_of_block (cs := #[.int .i64 (i : Int), .slice (some ⟨wr.heap.size, 0, none⟩) 1 1]) (t := 46) (fr := (0, 0)) hnew4) (by simp [Value.oneCell']) (by omega) (by unfold maxLen; omega) (by omega) (by omega) _ rfl ?_
            intro gg cap w5 hown5 hgrow5 hat5 hlt5
            obtain ⟨hP5, hb5⟩ := FIN.out gg cap w5 hown5 hgrow5
            clear hown5 hgrow5 hown4
            go_wp2_with fail
            go_roundw
            case rel => exact ⟨i + 1, _, by omega, rfl, by go_num, hP5, hb5⟩
            case measure => simp [intOf]; omega
          · have hcond := hcond.resolve_left h0
            obtain ⟨b', off', ho', _, hc'⟩ := hLr (i - 1) (by omega)
            cases ho'
            rw [hcond] at hc'
            have hi0 : (0 : Int) < (i : Int) := by omega
            have hi1 : (i : Int) - 1 = ((i - 1 : Nat) : Int) := by omega
            have hi2 : ((i - 1 : Nat) : Int) < (n : Int) := by omega
            obtain ⟨i', hi'e⟩ : ∃ i', i - 1 = i' := ⟨_, rfl⟩
            rw [hi'e] at hc' hi1 hi2
            clear hcond hLr
            go_wp2_with (at_builtin; refine Shut.out ?_)
            unfold Shut
            generalize (wr.alloc (.cells #[.int .u8 (F i)] 5)).alloc (.cells #[.int .i64 (i : Int), .slice (some ⟨wr.heap.size, 0, none⟩) 1 1] 46) = w4 at *
            refine wpList_append_lies _ rfl (.tmp 45) (.tmp 53) 22 rfl w.heap.size 46 i1 _ 2 32 Try.underlying22 hi' hy0 hy1 hy2 rfl (by decide) _ (runsP F i).length (lstP (runsP F i) bs cp) rfl hown4 ⟨wr.heap.size + 1, 0, none⟩ 1 1
              [.int .i64 (i : Int), .slice (some ⟨wr.heap.size, 0, none⟩) 1 1] rfl rfl (World.news_of_block (cs := #[.int .i64 (i : Int), .slice (some ⟨wr.heap.size, 0, none⟩) 1 1]) (t := 46) (fr := (0, 0)) hnew4) (by simp [Value.oneCell']) (by omega) (by unfold maxLen; omega) (by omega) (by omega) _ rfl ?_
            intro gg cap w5 hown5 hgrow5 hat5 hlt5
            obtain ⟨hP5, hb5⟩ := FIN.out gg cap w5 hown5 hgrow5
            clear hown5 hgrow5 hown4
            go_wp2_with fail
            go_roundw
            case rel => exact ⟨i + 1, _, by omega, rfl, by go_num, hP5, hb5⟩
            case measure => simp [intOf]; omega
    · obtain rfl : i = n := by omega
      have HP := hide hP
      clear hP hL hLr
      go_wp2_with fail
      go_ret
      exact ⟨_, rfl, HP.out, hbr⟩
end Go.Proofs.Ytafabjmeeccifaa
