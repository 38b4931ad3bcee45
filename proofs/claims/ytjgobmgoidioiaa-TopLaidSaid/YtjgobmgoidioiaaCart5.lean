/-
  cart: Pieces.
-/
import Derived.Test.YtjgobmgoidioiaaCart4
namespace Go.Proofs.Ytjgobmgoidioiaa
open Go.RowKit

def Shut (p : Prop) : Prop := p
theorem Shut.out {p : Prop} (h : Shut p) : p := h
theorem lst_row {w : World} {base g n : Nat} {F : Nat → Int} (h : w.heap[g]? = some (.cells (rowN n F) 5 (0, 0))) (hb : base ≤ g) (hn : n ≤ maxLen) : w.ownsRow base 5 1 (.slice (some ⟨g, 0, none⟩) n n) n (lst n F) := by
  refine ⟨by rw [lst_length, Nat.mul_one], Or.inr ⟨g, n, rowN n F, rfl, hb, h, Nat.le_refl _, hn, by unfold rowN; rw [arr_size, Nat.mul_one], ?_⟩⟩
  show (lst n F).take (n * 1) = lst n F
  rw [Nat.mul_one]
  exact List.take_of_length_le (by rw [lst_length]; exact Nat.le_refl _)
/-- One piece more. -/
theorem PL.snoc {w1 w4 w5 : World} {base gb c : Nat} {v v5 : Value} {ps : List (Nat × Nat)} {x : Nat × Nat} {F : Nat → Int} {bs cp : Nat → Nat} (h1 : w1.ownsRow base 48 2 v ps.length (lstP ps bs cp))
    (h2 : ∀ i, i < ps.length → w1.ownsRow base 5 1 (.slice (some ⟨bs i, 0, none⟩) (pN ps i) (cp i)) (pN ps i) (lst (pN ps i) (pB F ps i))) (h3 : ∀ i j, i < j → j < ps.length → bs i ≠ bs j)
    (hb : Below w1.heap.size w1 w4) (hrow : w4.ownsRow base 5 1 (.slice (some ⟨gb, 0, none⟩) (x.2 - x.1) c) (x.2 - x.1) (lst (x.2 - x.1) (fun j => F (x.1 + j)))) (hgb : w1.heap.size ≤ gb) (hgrow : w4.grownBy w5 v.ownBlock)
    (h5 : w5.ownsRow base 48 2 v5 (ps.length + 1) (lstP ps bs cp ++ [.int .i64 (x.1 : Int), .slice (some ⟨gb, 0, none⟩) (x.2 - x.1) c])) : PL w5 base v5 (ps ++ [x]) F := by
  have hl : (ps ++ [x]).length = ps.length + 1 := by simp
  have hv : w4.ownsRow base 48 2 v ps.length (lstP ps bs cp) := own_keep h1 (fun g hg => hb.block g (own_lt h1 hg))
  refine ⟨fun i => if i = ps.length then gb else bs i, fun i => if i = ps.length then c else cp i, by rw [lstP_snoc, hl]; exact h5, fun i hi => ?_, fun i j hij hj => ?_⟩
  · by_cases e : i = ps.length
    · subst e
      unfold pN pB pA
      rw [getD_new]
      dsimp only
      rw [if_pos rfl, if_pos rfl]
      refine own_keep hrow (fun g hg => hgrow.block g (own_lt hrow hg) (own_type hrow hv (by decide) hg))
    · have hi' : i < ps.length := by omega
      have h6 := h2 i hi'
      unfold pN pB pA at h6 ⊢
      rw [getD_old ps x hi']
      dsimp only
      rw [if_neg e, if_neg e]
      have h7 := own_keep h6 (fun g hg => hb.block g (own_lt h6 hg))
      exact own_keep h7 (fun g hg => hgrow.block g (own_lt h7 hg) (own_type h7 hv (by decide) hg))
  · dsimp only
    have hi : i ≠ ps.length := by omega
    rw [if_neg hi]
    by_cases e : j = ps.length
    · rw [if_pos e]
      have := own_lt (h2 i (by omega)) (g := bs i) rfl
      omega
    · rw [if_neg e]
      exact h3 i j hij (by omega)
theorem ctPieces_bad (n c : Nat) (o : Option Addr) (w : World) (hn : n ≤ maxLen) (h : ¬ ChkOk n) :
    Calls Try.prog 8 #[.slice o n c] w fun e w' => e = .returned (.tuple #[.slice none 0 0, .int .i64 6]) ∧ w = w' := by
  go_enter Try.func8, Try.ntmps8
  (go_wp2_with fail; refine Cl.p (ctCheck_bad n c o _ hn h) ?_)
  go_wp2_with fail
  go_ret2
  exact ⟨rfl, rfl⟩
set_option maxRecDepth 100000 in
set_option maxHeartbeats 4000000 in
theorem ctPieces_ok (n c : Nat) (o : Option Addr) (F : Nat → Int) (w : World) (hk : ChkOk n) (hnc : n ≤ c) (hcm : c ≤ maxLen) (hL : NumsAt w .u8 o n F) :
    Calls Try.prog 8 #[.slice o n c] w fun e w' => ∃ v, e = .returned (.tuple #[v, .int .i64 0]) ∧ PL w' w.heap.size v (runsP F n) F ∧ Below w.heap.size w w' := by
  obtain ⟨i0, hi, hz0, hz1, hz2⟩ := info_parts infoU8
  obtain ⟨i1, hi', hy0, hy1, hy2⟩ := info_parts infoPie
  have hsz1 : (Try.prog.info? 5).map (·.size) = some 1 := by rw [hi]; simp [hz1]
  have hn : n ≤ 1048576 := by obtain ⟨h1, h2, h3⟩ := hk; omega
  unfold maxLen at hcm
  go_enter Try.func8, Try.ntmps8
  (go_wp2_with fail; refine Cl.p (ctCheck_ok n c o _ hk) ?_)
  go_wp2_with fail
  go_loopw [5, 6] (fun v t wr => ∃ i : Nat, i ≤ n ∧ t = .int .i64 (i : Int) ∧ (i = 0 ∨ i = n ∨ F i = 0) ∧ PL wr w.heap.size v (runsP F i) F ∧ Below w.heap.size w wr) (fun _ t _ => n - (intOf t).toNat)
  case atStart => exact ⟨0, by omega, rfl, Or.inl rfl, PL.nil _ _ _, Below.refl _ _⟩
  case round =>
    obtain ⟨i, hin, rfl, hbd, hP, hbr⟩ := hrel
    obtain ⟨f, hJ⟩ : ∃ f, nzA F (n - i) i = f := ⟨_, rfl⟩
    obtain ⟨g, hG⟩ : ∃ g, ezA F (n - f) f = g := ⟨_, rfl⟩
    have hLr : NumsAt wr .u8 o n F := hL.below hbr (Nat.le_refl _)
    go_wp2_with fail
    refine (ctRun_calls n c i f g o F _ hn hin hLr hJ hG).mono ?_
    obtain ⟨j1, j2, j3, j4⟩ := nzA_spec (F := F) (n - i) i
    obtain ⟨e1, e2, e3, e4⟩ := ezA_spec (F := F) (n - f) f
    rw [hJ] at j1 j2 j3 j4
    rw [hG] at e1 e2 e3 e4
    have hif : runsP F f = runsP F i := by
      have := runs_zero (F := F) (i := i) (f - i) (fun j h1 h2 => j3 j h1 (by omega))
      rwa [show i + (f - i) = f from by omega] at this
    rintro e w1 ⟨rfl, ⟨hfn, rfl⟩ | ⟨hfn, rfl⟩⟩
    · subst hfn
      rw [← hif] at hP
      have HP := hide hP
      clear hP hbd j3 j4 e3 e4 hif hJ hG
      go_wp2_with fail
      go_ret2
      exact ⟨_, rfl, HP.out, hbr⟩
    · have hne : F f ≠ 0 := j4 (by omega)
      have hfg : f < g := by
        rcases Nat.eq_or_lt_of_le e1 with h | h
        · exact absurd (e4 (by omega)) (by rw [← h]; exact hne)
        · exact h
      have hb0 : f = 0 ∨ F (f - 1) = 0 := by
        rcases Nat.eq_or_lt_of_le j1 with h | h
        · rcases hbd with hbd | hbd | hbd
          · left; omega
          · omega
          · rw [h] at hbd; exact absurd hbd hne
        · exact Or.inr (j3 (f - 1) (by omega) (by omega))
      have hfg2 : runsP F g = runsP F f ++ [(f, g)] := by
        have := runs_run hb0 (g - f - 1) (fun j h1 h2 => e3 j h1 (by omega))
        rwa [show f + (g - f - 1) + 1 = g from by omega] at this
      have hbd2 : g = 0 ∨ g = n ∨ F g = 0 := by
        by_cases h : g = n
        · exact Or.inr (Or.inl h)
        · exact Or.inr (Or.inr (e4 (by omega)))
      have hgn : g ≤ n := by omega
      obtain ⟨l, hl⟩ : ∃ l, g - f = l := ⟨_, rfl⟩
      have hgf : (g : Int) - (f : Int) = (l : Int) := by omega
      have hmk := fun W => run_make_arr (P := Try.prog) 27 5 i0 (.int .u8 0) 1 Try.underlying27 hi hz0 hz1 hz2 rfl .i64 .i64 l (by omega) (by omega) W
      have hlen := runs_len (F := F) f
      rw [← hif] at hP
      have H1 := hide hfg2
      have H2 := hide hbd2
      have k1 : (f : Int) ≤ (g : Int) := by omega
      have k2 : (g : Int) ≤ (c : Int) := by omega
      have k3 : (0 : Int) ≤ (l : Int) := by omega
      clear hfg2 hbd2 hbd j3 j4 e3 e4 hif hJ hG hb0
      obtain ⟨b, off, ho, hbl, _⟩ := hLr f hfn
      subst ho
      have hb2 : Below w1.heap.size w1 (w1.alloc (.cells (arr l fun _ => .int .u8 0) 5)) := (Below.refl _ _).alloc (Nat.le_refl _) _
      have hg2 : (w1.alloc (.cells (arr l fun _ => .int .u8 0) 5)).heap[w1.heap.size]? = some (.cells (lst l fun _ => 0).toArray 5 (0, 0)) := Blk.new _ _ _
      have hS2 : NumsAt (w1.alloc (.cells (arr l fun _ => .int .u8 0) 5)) .u8 (some ⟨b, off + f, none⟩) l (fun j => F (f + j)) := fun j hj => by
        obtain ⟨b', off', ha, hlt', hc'⟩ := hLr.below hb2 (Nat.le_refl _) (f + j) (by omega)
        cases ha
        exact ⟨b, off + f, rfl, hlt', by rw [Nat.add_assoc]; exact hc'⟩
      have hsrc := fun h0 => lst_src hS2 h0
      have hn' : (lst l fun j => F (f + j)).length = Nat.min l l := by rw [lst_length]; exact (Nat.min_self l).symm
      have hfit : 0 + (lst l fun j => F (f + j)).length ≤ (lst l fun _ => (0 : Int)).length := by rw [lst_length, lst_length]; omega
      obtain ⟨bs, cp, hown, hby, hdi⟩ := hP
      clear hS2 hLr hk hL
      go_wp2_with (first | (at_builtin; refine Shut.out ?_) | (refine wpList_copy_splice rfl (.tmp 30) (.tmp 34) 27 27 rfl 5 Try.underlying27 hsz1 _ (some ⟨b, off + f, none⟩) l _ l _ (by rfl) (by rfl) w1.heap.size 0 (lst l fun _ => 0) 5 hg2 (lst l fun j => F (f + j)) hn' (fun h0 => ⟨rfl, hsrc h0⟩) hfit (lst_one _ _) w1.heap.size w1 hb2 (Nat.le_refl _) ?_; intro w3 hG3 hB3))
      unfold Shut
      have hG3 := hG3.out
      rw [splice_row (show 0 + l ≤ l by omega)] at hG3
      have hR3 : w3.heap[w1.heap.size]? = some (.cells (rowN l (fun j => F (f + j))) 5 (0, 0)) := by
        rw [hG3, rowN_congr (G := fun j => F (f + j)) (fun i hi => by unfold layF; rw [if_pos (by omega), Nat.sub_zero])]
      have hB4 : Below w1.heap.size w1 (w3.alloc (.cells #[.int .i64 (f : Int), .slice (some ⟨w1.heap.size, 0, none⟩) l l] 48)) := hB3.alloc hB3.size _
      have hown4 := own_keep hown (fun g' hg' => hB4.block g' (own_lt hown hg'))
      have hbase : w.heap.size ≤ w1.heap.size := hbr.size
      have hrow4 : (w3.alloc (.cells #[.int .i64 (f : Int), .slice (some ⟨w1.heap.size, 0, none⟩) l l] 48)).heap[w1.heap.size]? = some (.cells (rowN l (fun j => F (f + j))) 5 (0, 0)) := Blk.alloc (t := 5) hR3 _
      have hnew4 := heap_alloc_new w3 (.cells #[.int .i64 (f : Int), .slice (some ⟨w1.heap.size, 0, none⟩) l l] 48)
      generalize w3.alloc (.cells #[.int .i64 (f : Int), .slice (some ⟨w1.heap.size, 0, none⟩) l l] 48) = w4 at *
      have hs4 := hB4.size
      refine wpList_append_lies _ rfl (.tmp 36) (.tmp 40) 22 rfl w.heap.size 48 i1 _ 2 32 Try.underlying22 hi' hy0 hy1 hy2 rfl (by decide) _ (runsP F f).length (lstP (runsP F f) bs cp) rfl hown4 ⟨w3.heap.size, 0, none⟩ 1 1
        [.int .i64 (f : Int), .slice (some ⟨w1.heap.size, 0, none⟩) l l] rfl rfl (World.news_of_block (cs := #[.int .i64 (f : Int), .slice (some ⟨w1.heap.size, 0, none⟩) l l]) (t := 48) (fr := (0, 0)) hnew4) (by simp [Value.oneCell']) (by omega) (by unfold maxLen; omega) (by omega) (by omega) _ rfl ?_
      intro gg cap w5 hown5 hgrow5 hat5 hlt5
      have hr4 := lst_row (F := fun j => F (f + j)) hrow4 hbase (by unfold maxLen; omega)
      have hP5 : PL w5 w.heap.size (.slice (some ⟨gg, 0, none⟩) ((runsP F f).length + 1) cap) (runsP F f ++ [(f, g)]) F :=
        PL.snoc (gb := w1.heap.size) (c := l) (x := (f, g)) (w1 := w1) (w4 := w4) hown hby hdi hB4 (by show w4.ownsRow _ _ _ (.slice _ (g - f) l) (g - f) (lst (g - f) _); rw [hl]; exact hr4) (Nat.le_refl _) hgrow5 (by show w5.ownsRow _ _ _ _ _ (_ ++ [_, .slice _ (g - f) l]); rw [hl]; exact hown5)
      rw [← H1.out] at hP5
      have hb5 : Below w.heap.size w w5 := (hbr.trans (hB4.mono hbase)).grown hgrow5 (by omega) (fun k hk => (own_blk hown4 hk).1)
      clear hown5 hgrow5 hown4 hown hby hdi
      go_wp2_with fail
      go_roundw
      case rel => exact ⟨g, by omega, rfl, H2.out, hP5, hb5⟩
      case measure => simp [intOf]; omega
end Go.Proofs.Ytjgobmgoidioiaa
