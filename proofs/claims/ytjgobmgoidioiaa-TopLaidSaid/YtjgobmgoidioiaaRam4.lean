/-
  Package ram: Pieces.
-/
import Derived.Test.YtjgobmgoidioiaaRam2
import Derived.Test.YtjgobmgoidioiaaCart6
namespace Go.Proofs.Ytjgobmgoidioiaa
set_option linter.unusedSimpArgs false
set_option linter.unusedVariables false
open Go.RowKit
theorem lstP_nil (ps : List (Nat × Nat)) (f : Nat) (bs cp : Nat → Nat) (b c : Nat) :
    (lstP ps bs cp ++ [Value.int .i64 (f : Int), Value.slice none 0 0]).set (ps.length * 2 + 1) (Value.slice (some ⟨b, 0, none⟩) 1 c) = lstP (ps ++ [(f, f + 1)]) (fun i => if i = ps.length then b else bs i) (fun i => if i = ps.length then c else cp i) := by
  rw [lstP_snoc]
  rw [show f + 1 - f = 1 from by omega]
  have hl := lstP_length ps bs cp
  rw [List.set_append_right _ _ (by omega), hl]
  rw [show ps.length * 2 + 1 - ps.length * 2 = 1 from by omega]
  rfl
/-- One piece more, of one byte, laid in two steps. -/
theorem PL.snoc2 {w1 w4 w5 w7 : World} {base ob gg cap c0 f : Nat} {v : Value} {ps : List (Nat × Nat)} {F : Nat → Int} {bs cp : Nat → Nat} (h1 : w1.ownsRow base 48 2 v ps.length (lstP ps bs cp))
    (h2 : ∀ i, i < ps.length → w1.ownsRow base 5 1 (.slice (some ⟨bs i, 0, none⟩) (pN ps i) (cp i)) (pN ps i) (lst (pN ps i) (pB F ps i))) (h3 : ∀ i j, i < j → j < ps.length → bs i ≠ bs j)
    (hb : Below w1.heap.size w1 w4) (hgrow : w4.grownBy w5 v.ownBlock)
    (h5 : w5.ownsRow base 48 2 (.slice (some ⟨ob, 0, none⟩) (ps.length + 1) c0) (ps.length + 1) (lstP ps bs cp ++ [.int .i64 (f : Int), .slice none 0 0]))
    (hb7 : Below w5.heap.size w5 w7) (h7 : w7.ownsRow base 5 1 (.slice (some ⟨gg, 0, none⟩) 1 cap) 1 [.int .u8 (F f)]) (hgg : w5.heap.size ≤ gg) :
    PL (w7.setCell ⟨ob, ps.length * 2 + 1, none⟩ (.slice (some ⟨gg, 0, none⟩) 1 cap)) base (.slice (some ⟨ob, 0, none⟩) (ps.length + 1) c0) (ps ++ [(f, f + 1)]) F := by
  have hl : (ps ++ [(f, f + 1)]).length = ps.length + 1 := by simp
  have hv : w4.ownsRow base 48 2 v ps.length (lstP ps bs cp) := own_keep h1 (fun g hg => hb.block g (own_lt h1 hg))
  have h5' := own_keep h5 (fun g hg => hb7.block g (own_lt h5 hg))
  have hgo : some gg ≠ some ob := own_type h7 h5' (by decide) rfl
  have hgo' : gg ≠ ob := fun e => hgo (by rw [e])
  have hs5 := hgrow.size
  refine ⟨fun i => if i = ps.length then gg else bs i, fun i => if i = ps.length then cap else cp i, ?_, fun i hi => ?_, fun i j hij hj => ?_⟩
  · rw [hl, ← lstP_nil ps f bs cp gg cap]
    exact own_set h5' (i := ps.length * 2 + 1) (by omega) _
  · by_cases ei : i = ps.length
    · subst ei
      unfold pN pB pA
      rw [getD_new]
      dsimp only
      rw [if_pos rfl, if_pos rfl, show f + 1 - f = 1 from by omega]
      exact own_keep h7 (fun g hg => by cases hg; exact Below.heap_setCell _ ⟨ob, _, none⟩ _ _ hgo')
    · have hi' : i < ps.length := by omega
      have h6 := h2 i hi'
      unfold pN pB pA at h6 ⊢
      rw [getD_old ps _ hi']
      dsimp only
      rw [if_neg ei, if_neg ei]
      have h8 := own_keep h6 (fun g hg => hb.block g (own_lt h6 hg))
      have h9 := own_keep h8 (fun g hg => hgrow.block g (own_lt h8 hg) (own_type h8 hv (by decide) hg))
      have h10 := own_keep h9 (fun g hg => hb7.block g (own_lt h9 hg))
      have hbo : some (bs i) ≠ some ob := own_type h10 h5' (by decide) rfl
      exact own_keep h10 (fun g hg => by cases hg; exact Below.heap_setCell _ ⟨ob, _, none⟩ _ _ (fun e => hbo (congrArg some e)))
  · dsimp only
    have hi : i ≠ ps.length := by omega
    rw [if_neg hi]
    by_cases ej : j = ps.length
    · rw [if_pos ej]
      have hlt := own_lt (h2 i (by omega)) (g := bs i) rfl
      have := hb.size
      omega
    · rw [if_neg ej]
      exact h3 i j hij (by omega)
/-- Is a run open? -/
def Opn (F : Nat → Int) (i : Nat) (u : Bool) : Prop := u = true ↔ 0 < i ∧ F (i - 1) ≠ 0
set_option maxRecDepth 100000 in
set_option maxHeartbeats 4000000 in
theorem rmPieces_calls (h g m : Nat) (F : Nat → Int) (w : World) (hR : RamB w h g m F) :
    Calls Try.prog 12 #[.pointer (some ⟨h, 0, none⟩)] w fun e w' => ∃ v, e = .returned v ∧ PL w' w.heap.size v (runsP F 8192) F ∧ Below w.heap.size w w' := by
  obtain ⟨i0, hi, hz0, hz1, hz2⟩ := info_parts infoU8
  obtain ⟨i1, hi', hy0, hy1, hy2⟩ := info_parts infoPie
  go_enter Try.func12, Try.ntmps12
  go_wp2_with fail
  go_loopw [3, 4, 8] (fun v q t wr => ∃ (i : Nat) (V : Value) (u : Bool), i ≤ 8192 ∧ V = v ∧ t = .int .i64 (i : Int) ∧ q = .bool u ∧ Opn F i u ∧ PL wr w.heap.size V (runsP F i) F ∧ Below w.heap.size w wr) (fun _ _ t _ => 8192 - (intOf t).toNat)
  case atStart => exact ⟨0, _, false, by omega, rfl, rfl, rfl, ⟨(fun h => by cases h), (fun h => by omega)⟩, PL.nil _ _ _, Below.refl _ _⟩
  case round =>
    obtain ⟨i, VV, u, hin, rfl, rfl, rfl, hu, hP, hbr⟩ := hrel
    have hRr := hR.low hbr
    by_cases hlt : i < 8192
    · have hlt' : (i : Int) < 8192 := by omega
      have hrd := rmRead_calls h g m i F wr (by omega) hRr
      rw [show i % 8192 = i from by omega] at hrd
      have hbase : w.heap.size ≤ wr.heap.size := hbr.size
      have hlen := runs_len (F := F) i
      by_cases hz : F i = 0
      · have hr : runsP F (i + 1) = runsP F i := if_pos hz
        rw [← hr] at hP
        have HP := hide hP
        have HU : Hid (Opn F (i + 1) false) := ⟨(fun h => by cases h), (fun h => absurd hz h.2)⟩
        rw [hz] at hrd
        clear hP hr hz hR hRr hu hlen
        go_wp2_with fail
        refine Cl.p hrd ?_
        clear hrd
        go_wp2_with fail
        go_roundw
        case rel => exact ⟨i + 1, _, _, by omega, rfl, by go_num, rfl, HU.out, HP.out, hbr⟩
        case measure => simp [intOf]; omega
      · have hne : (F i == 0) = false := beq_eq_false_iff_ne.2 hz
        have HU : Hid (Opn F (i + 1) true) := ⟨fun _ => ⟨by omega, hz⟩, fun _ => rfl⟩
        by_cases h2 : 0 < i ∧ F (i - 1) ≠ 0
        · -- the last piece goes on
          obtain rfl : u = true := hu.2 h2
          have hr : runsP F (i + 1) = extL (runsP F i) (i + 1) := (if_neg hz).trans (if_pos h2)
          obtain ⟨ps, f, e, hf⟩ := runs_last i h2.1 h2.2
          rw [e, extL_snoc] at hr
          have HR := hide hr
          rw [e] at hP hlen
          obtain ⟨bs, cp, hown, hby, hdi⟩ := hP
          have hl2 : (ps ++ [(f, i)]).length = ps.length + 1 := by simp
          rw [hl2] at hown
          obtain ⟨ob, c0, rfl, hob, hobl⟩ := hown.form (by omega)
          have hlast := hby ps.length (by omega)
          unfold pN pB pA at hlast
          rw [getD_new] at hlast
          dsimp only at hlast
          have hob2 : some ob ≠ some (bs ps.length) := own_type hown hlast (by decide) rfl
          obtain ⟨x1, x2⟩ := own_cell (j := ps.length * 2 + 1) (u := .slice (some ⟨bs ps.length, 0, none⟩) (i - f) (cp ps.length)) hown (by
            rw [lstP_get, hl2, if_pos (by omega)]
            unfold pieV pN
            rw [if_neg (by omega), show (ps.length * 2 + 1) / 2 = ps.length from by omega, getD_new])
          have hbw2 : Below wr.heap.size wr (wr.alloc (.cells #[.int .u8 (F i)] 5)) := (Below.refl _ _).alloc (Nat.le_refl _) _
          have hlast2 := own_keep hlast (fun g' hg' => hbw2.block g' (own_lt hlast hg'))
          have y1 : (wr.alloc (.cells #[.int .u8 (F i)] 5)).cell? ⟨ob, ps.length * 2 + 1, none⟩ = some (.slice (some ⟨bs ps.length, 0, none⟩) (i - f) (cp ps.length)) := (hbw2.cell (p := ⟨ob, ps.length * 2 + 1, none⟩) hobl).trans x1
          have y2 : (wr.alloc (.cells #[.int .u8 (F i)] 5)).frozen? ⟨ob, ps.length * 2 + 1, none⟩ = false := (hbw2.frozen (p := ⟨ob, ps.length * 2 + 1, none⟩) hobl).trans x2
          have hblk := heap_alloc_new wr (.cells #[.int .u8 (F i)] 5)
          have hs2 := hbw2.size
          obtain ⟨k, hk⟩ : ∃ k, ps.length = k := ⟨_, rfl⟩
          rw [hk] at hown hlast hob2 x1 x2 hlast2 y1 y2 hl2
          have hk1 : ((k + 1 : Nat) : Int) - 1 = (k : Int) := by omega
          have hk2 : (k : Int) < (k : Int) + 1 := by omega
          have hkn : k ≤ 8192 := by omega
          have hbase2 : w.heap.size ≤ (wr.alloc (.cells #[.int .u8 (F i)] 5)).heap.size := Nat.le_trans hbase hs2
          clear hlast hr hz hR hRr hu e h2
          go_wp2_with fail
          refine Cl.p hrd ?_
          clear hrd
          go_wp2_with (at_builtin; refine Shut.out ?_)
          unfold Shut
          refine wpList_append_lies _ rfl (.tmp 33) (.tmp 35) 27 rfl w.heap.size 5 i0 _ 1 1 Try.underlying27 hi hz0 hz1 hz2 rfl (by decide) _ (i - f) (lst (i - f) fun j => F (f + j)) rfl hlast2
            ⟨wr.heap.size, 0, none⟩ 1 1 [.int .u8 (F i)] rfl rfl (World.news_of_block (cs := #[.int .u8 (F i)]) (t := 5) (fr := (0, 0)) hblk) (by simp [Value.oneCell'])
            (by omega) (by unfold maxLen; omega) (by omega) hbase2 _ rfl ?_
          intro gg cap w1 hown1 hgrow1 hat hlt1
          have q1 := grown_cell hgrow1 y1 hob2
          have q2 := grown_frozen hgrow1 (p := ⟨ob, k * 2 + 1, none⟩) (Nat.lt_of_lt_of_le hobl hs2) y2 hob2
          have hP6 : PL (w1.setCell ⟨ob, k * 2 + 1, none⟩ (.slice (some ⟨gg, 0, none⟩) (i - f + 1) cap)) w.heap.size (.slice (some ⟨ob, 0, none⟩) (k + 1) c0) (ps ++ [(f, i + 1)]) F := by
            subst hk
            refine PL.ext (w2 := wr.alloc (.cells #[.int .u8 (F i)] 5)) hown hby hdi hf hbw2 hown1 hgrow1 ?_
            rcases hat with hat | hat
            · left; injection hat
            · right; rw [hat]; exact hs2
          have hb6 : Below w.heap.size w (w1.setCell ⟨ob, k * 2 + 1, none⟩ (.slice (some ⟨gg, 0, none⟩) (i - f + 1) cap)) :=
            ((hbr.trans (hbw2.mono hbase)).grown hgrow1 hbase2 (fun k' hk' => (own_blk hlast2 hk').1)).setCell (p := ⟨ob, k * 2 + 1, none⟩) hob _
          rw [← HR.out] at hP6
          clear hown1 hgrow1 y1 y2 hblk hlast2
          go_wp2_with fail
          go_roundw
          case rel => exact ⟨i + 1, _, _, by omega, rfl, by go_num, rfl, HU.out, hP6, hb6⟩
          case measure => simp [intOf]; omega
        · obtain rfl : u = false := by
            cases u
            · rfl
            · exact absurd (hu.1 rfl) h2
          have hr : runsP F (i + 1) = runsP F i ++ [(i, i + 1)] := (if_neg hz).trans (if_neg h2)
          have HR := hide hr
          obtain ⟨bs, cp, hown, hby, hdi⟩ := hP
          have hB4 : Below wr.heap.size wr (wr.alloc (.cells #[.int .i64 (i : Int), .slice none 0 0] 48)) := (Below.refl _ _).alloc (Nat.le_refl _) _
          have hown4 := own_keep hown (fun g' hg' => hB4.block g' (own_lt hown hg'))
          have hnew4 := heap_alloc_new wr (.cells #[.int .i64 (i : Int), .slice none 0 0] 48)
          have hs4 := hB4.size
          obtain ⟨k, hk⟩ : ∃ k, (runsP F i).length = k := ⟨_, rfl⟩
          have hk1 : ((k + 1 : Nat) : Int) - 1 = (k : Int) := by omega
          have hk2 : (k : Int) < (k : Int) + 1 := by omega
          have hkn : k ≤ 8192 := by omega
          rw [hk] at hown4
          have hb04 : Below w.heap.size w (wr.alloc (.cells #[.int .i64 (i : Int), .slice none 0 0] 48)) := hbr.trans (hB4.mono hbase)
          clear hR hRr hu hr hz h2
          go_wp2_with fail
          refine Cl.p hrd ?_
          clear hrd
          go_wp2_with (at_builtin; refine Shut.out ?_)
          unfold Shut
          generalize wr.alloc (.cells #[.int .i64 (i : Int), .slice none 0 0] 48) = w4 at *
          refine wpList_append_lies _ rfl (.tmp 19) (.tmp 22) 22 rfl w.heap.size 48 i1 _ 2 32 Try.underlying22 hi' hy0 hy1 hy2 rfl (by decide) _ k (lstP (runsP F i) bs cp) rfl hown4 ⟨wr.heap.size, 0, none⟩ 1 1
            [.int .i64 (i : Int), .slice none 0 0] rfl rfl (World.news_of_block (cs := #[.int .i64 (i : Int), .slice none 0 0]) (t := 48) (fr := (0, 0)) hnew4) (by simp [Value.oneCell']) (by omega) (by unfold maxLen; omega) (by omega) (by omega) _ rfl ?_
          intro ob c0 w5 hown5 hgrow5 hat5 hlt5
          have hb05 : Below w.heap.size w w5 := hb04.grown hgrow5 (by omega) (fun k hk => (own_blk hown4 hk).1)
          have hob := (own_blk hown5 (g := ob) rfl).1
          have hobl := own_lt hown5 (g := ob) rfl
          obtain ⟨x1, x2⟩ := own_cell (j := k * 2 + 1) (u := .slice none 0 0) hown5 (by
            have hl := lstP_length (runsP F i) bs cp
            rw [hk] at hl
            rw [List.getElem?_append_right (by omega), hl, show k * 2 + 1 - k * 2 = 1 from by omega]
            rfl)
          have hbase5 : w.heap.size ≤ w5.heap.size := hb05.size
          have hbw6 : Below w5.heap.size w5 (w5.alloc (.cells #[.int .u8 (F i)] 5)) := (Below.refl _ _).alloc (Nat.le_refl _) _
          have hblk := heap_alloc_new w5 (.cells #[.int .u8 (F i)] 5)
          have hs6 := hbw6.size
          have hnil := World.ownsRow_nil (w5.alloc (.cells #[.int .u8 (F i)] 5)) w5.heap.size 5 1
          have y1 : (w5.alloc (.cells #[.int .u8 (F i)] 5)).cell? ⟨ob, k * 2 + 1, none⟩ = some (.slice none 0 0) := (hbw6.cell (p := ⟨ob, k * 2 + 1, none⟩) hobl).trans x1
          have y2 : (w5.alloc (.cells #[.int .u8 (F i)] 5)).frozen? ⟨ob, k * 2 + 1, none⟩ = false := (hbw6.frozen (p := ⟨ob, k * 2 + 1, none⟩) hobl).trans x2
          go_wp2_with (at_builtin; refine Shut.out ?_)
          unfold Shut
          refine wpList_append_lies _ rfl (.tmp 33) (.tmp 35) 27 rfl w5.heap.size 5 i0 _ 1 1 Try.underlying27 hi hz0 hz1 hz2 rfl (by decide) _ 0 [] rfl hnil
            ⟨w5.heap.size, 0, none⟩ 1 1 [.int .u8 (F i)] rfl rfl (World.news_of_block (cs := #[.int .u8 (F i)]) (t := 5) (fr := (0, 0)) hblk) (by simp [Value.oneCell'])
            (by omega) (by unfold maxLen; omega) (by omega) hs6 _ rfl ?_
          intro gg cap w7 hown7 hgrow7 hat7 hlt7
          have q1 := grown_cell hgrow7 y1 (fun e => by have e : some ob = none := e; cases e)
          have q2 := grown_frozen hgrow7 (p := ⟨ob, k * 2 + 1, none⟩) (Nat.lt_of_lt_of_le hobl hs6) y2 (fun e => by have e : some ob = none := e; cases e)
          have hb57 : Below w5.heap.size w5 w7 := hbw6.grown hgrow7 hs6 (fun k' hk' => by have e : none = some k' := hk'; cases e)
          have hgg := (own_blk hown7 (g := gg) rfl).1
          have hown7' : w7.ownsRow w.heap.size 5 1 (.slice (some ⟨gg, 0, none⟩) 1 cap) 1 [.int .u8 (F i)] := by
            obtain ⟨r1, r2 | ⟨g', cap', cur', r3, r4, r5⟩⟩ := hown7
            · cases r2.1
            · exact ⟨r1, .inr ⟨g', cap', cur', r3, Nat.le_trans hbase5 r4, r5⟩⟩
          have hP8 : PL (w7.setCell ⟨ob, k * 2 + 1, none⟩ (.slice (some ⟨gg, 0, none⟩) 1 cap)) w.heap.size (.slice (some ⟨ob, 0, none⟩) (k + 1) c0) (runsP F i ++ [(i, i + 1)]) F := by
            subst hk
            exact PL.snoc2 hown hby hdi hB4 hgrow5 hown5 hb57 hown7' hgg
          have hb8 : Below w.heap.size w (w7.setCell ⟨ob, k * 2 + 1, none⟩ (.slice (some ⟨gg, 0, none⟩) 1 cap)) := (hb05.trans (hb57.mono hbase5)).setCell (p := ⟨ob, k * 2 + 1, none⟩) hob _
          rw [← HR.out] at hP8
          clear hown7 hown7' hgrow7 y1 y2 hblk hnil hown5 hgrow5 hown4 hown hby hdi x1 x2 hb57 hb05 hb04 hbw6
          go_wp2_with fail
          go_roundw
          case rel => exact ⟨i + 1, _, _, by omega, rfl, by go_num, rfl, HU.out, hP8, hb8⟩
          case measure => simp [intOf]; omega
    · obtain rfl : i = 8192 := by omega
      have HP := hide hP
      clear hP hR hRr hu
      go_wp2_with fail
      go_ret
      exact ⟨_, rfl, HP.out, hbr⟩
end Go.Proofs.Ytjgobmgoidioiaa
