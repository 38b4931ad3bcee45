/-
  cart: Program; gannetref04: Program.
-/
import Derived.Test.YtafabjmeeccifaaCart6
import Derived.Test.YtafabjmeeccifaaOct
import Derived.Test.YtafabjmeeccifaaPhys
import Derived.Deep.DeepCutAuto
namespace Go.Proofs.Ytafabjmeeccifaa
open Go.RowKit Pl

/-- The byte of a place to which one goes. -/
def goB (G : Nat → Nat) (j : Nat) : Int := if j % 2 = 0 then ((G (j / 2) % 256 : Nat) : Int) else ((G (j / 2) / 256 : Nat) : Int)
/-- Code, and the first k places to which one goes. -/
def prg (f n : Nat) (F : Nat → Int) (G : Nat → Nat) (k : Nat) : Nat → Int := fun j => if 8182 ≤ j ∧ j < 8182 + 2 * k then goB G (j - 8182) else layF (fun _ => 0) f n F j
theorem prg_zero (f n : Nat) (F : Nat → Int) (G : Nat → Nat) : prg f n F G 0 = layF (fun _ => 0) f n F := by
  funext j
  unfold prg
  rw [if_neg (by omega)]
theorem prg_step (f n : Nat) (F : Nat → Int) (G : Nat → Nat) (k : Nat) :
    (fun q => if q = 8183 + 2 * k then ((G k / 256 : Nat) : Int) else (fun q => if q = 8182 + 2 * k then ((G k % 256 : Nat) : Int) else prg f n F G k q) q) = prg f n F G (k + 1) := by
  funext q
  unfold prg
  dsimp only
  by_cases h1 : q = 8183 + 2 * k
  · rw [if_pos h1, if_pos (by omega)]
    unfold goB
    rw [if_neg (by omega), show (q - 8182) / 2 = k from by omega]
  · rw [if_neg h1]
    by_cases h2 : q = 8182 + 2 * k
    · rw [if_pos h2, if_pos (by omega)]
      unfold goB
      rw [if_pos (by omega), show (q - 8182) / 2 = k from by omega]
    · rw [if_neg h2]
      by_cases h3 : 8182 ≤ q ∧ q < 8182 + 2 * k
      · rw [if_pos h3, if_pos (by omega)]
      · rw [if_neg h3, if_neg (by omega)]
theorem prg_lay (f n : Nat) (F : Nat → Int) (G : Nat → Nat) (k : Nat) (L : Nat → Int) (h0 : L 0 = ((G k % 256 : Nat) : Int)) (h1 : L 1 = ((G k / 256 : Nat) : Int)) :
    layF (prg f n F G k) (8182 + 2 * k) 2 L = prg f n F G (k + 1) := by
  rw [← prg_step]
  funext q
  unfold layF
  dsimp only
  by_cases e1 : q = 8183 + 2 * k
  · rw [if_pos e1, if_pos (by omega), show q - (8182 + 2 * k) = 1 from by omega, h1]
  · rw [if_neg e1]
    by_cases e2 : q = 8182 + 2 * k
    · rw [if_pos e2, if_pos (by omega), show q - (8182 + 2 * k) = 0 from by omega, h0]
    · rw [if_neg e2, if_neg (by omega)]

/-! ### the pieces of a program -/
def gA (f : Nat) (i : Nat) : Int := if i = 0 then (f : Int) else ((8182 + 2 * (i - 1) : Nat) : Int)
def gO (o : Option Addr) (bs : Nat → Nat) (i : Nat) : Option Addr := if i = 0 then o else some ⟨bs (i - 1), 0, none⟩
def gN (n : Nat) (i : Nat) : Nat := if i = 0 then n else 2
def gC (c : Nat) (i : Nat) : Nat := if i = 0 then c else 2
def gB (F : Nat → Int) (G : Nat → Nat) (i : Nat) : Nat → Int := if i = 0 then F else fun j => if j = 0 then ((G (i - 1) % 256 : Nat) : Int) else ((G (i - 1) / 256 : Nat) : Int)
def gV (f n c : Nat) (o : Option Addr) (bs : Nat → Nat) (j : Nat) : Value := if j % 2 = 0 then .int .i64 (gA f (j / 2)) else .slice (gO o bs (j / 2)) (gN n (j / 2)) (gC c (j / 2))
def gL (f n c : Nat) (o : Option Addr) (bs : Nat → Nat) (k : Nat) : List Value := (List.range (k * 2)).map (gV f n c o bs)
theorem gL_length (f n c : Nat) (o : Option Addr) (bs : Nat → Nat) (k : Nat) : (gL f n c o bs k).length = k * 2 := by simp [gL]
theorem gL_get (f n c : Nat) (o : Option Addr) (bs : Nat → Nat) (k j : Nat) : (gL f n c o bs k)[j]? = if j < k * 2 then some (gV f n c o bs j) else none := by
  unfold gL
  by_cases h : j < k * 2
  · simp [h]
  · simp [h]
theorem gL_snoc (f n c : Nat) (o : Option Addr) (bs : Nat → Nat) (k b : Nat) :
    gL f n c o (fun i => if i = k then b else bs i) (k + 2) = gL f n c o bs (k + 1) ++ [.int .i64 ((8182 + 2 * k : Nat) : Int), .slice (some ⟨b, 0, none⟩) 2 2] := by
  apply List.ext_getElem?
  intro j
  rw [List.getElem?_append, gL_get, gL_get, gL_length]
  unfold gV gA gO gN gC
  by_cases h : j < (k + 1) * 2
  · rw [if_pos (by omega), if_pos h, if_pos h]
    dsimp only
    by_cases h0 : j / 2 = 0
    · rw [if_pos h0, if_pos h0, if_pos h0, if_pos h0, if_pos h0]
    · rw [if_neg h0, if_neg h0, if_neg h0, if_neg h0, if_neg h0, if_neg (show j / 2 - 1 ≠ k by omega)]
  · rw [if_neg h]
    dsimp only
    by_cases h1 : j = (k + 1) * 2
    · have h2 : j / 2 = k + 1 := by omega
      rw [if_pos (by omega), if_pos (show j % 2 = 0 by omega), if_neg (by omega), h2, show j - (k + 1) * 2 = 0 from by omega, Nat.add_sub_cancel]
      rfl
    · by_cases h2 : j = (k + 1) * 2 + 1
      · have h3 : j / 2 = k + 1 := by omega
        have h4 : ¬ k + 1 = 0 := by omega
        rw [if_pos (by omega), if_neg (show ¬ j % 2 = 0 by omega), h3, show j - (k + 1) * 2 = 1 from by omega, Nat.add_sub_cancel, if_neg h4, if_neg h4, if_neg h4, if_pos rfl]
        rfl
      · rw [if_neg (by omega)]
        rw [List.getElem?_eq_none (by simp; omega)]
theorem gF_prg (f n : Nat) (F : Nat → Int) (G : Nat → Nat) : ∀ k, mkF (gA f) (gN n) (gB F G) (k + 1) = prg f n F G k
  | 0 => by rw [prg_zero]; rfl
  | k + 1 => by
    show layF (mkF (gA f) (gN n) (gB F G) (k + 1)) (gA f (k + 1)).toNat (gN n (k + 1)) (gB F G (k + 1)) = _
    rw [gF_prg f n F G k]
    unfold gA gN gB
    rw [if_neg (by omega), if_neg (by omega), if_neg (by omega), Nat.add_sub_cancel, Int.toNat_natCast]
    exact prg_lay f n F G k _ rfl rfl
theorem gFits (f n : Nat) (h : f + n ≤ 8182) (i : Nat) (hi : i < 6) : Fits 8192 (gA f i) (gN n i) := by
  unfold Fits gA gN
  by_cases h0 : i = 0
  · rw [if_pos h0, if_pos h0]; omega
  · rw [if_neg h0, if_neg h0]; omega
theorem own_blk_ne {w : World} {base n size g : Nat} {e t : TypeId} {v : Value} {xs : List Value} {cs : Array Value} (h : w.ownsRow base e size v n xs) (hb : Blk w g t cs) (he : e ≠ t) : some g ≠ v.ownBlock := fun hx => by
  obtain ⟨_, c, k⟩ := own_blk h hx.symm
  rw [hb] at k
  cases k
  exact he rfl
/-- The bytes of places to which one goes, in blocks. -/
def GB (w : World) (base k : Nat) (bs : Nat → Nat) (G : Nat → Nat) : Prop := ∀ i, i < k → base ≤ bs i ∧ Blk w (bs i) 5 #[.int .u8 ((G i % 256 : Nat) : Int), .int .u8 ((G i / 256 : Nat) : Int)]
theorem g_pieces {w : World} {base f n c k : Nat} {o : Option Addr} {bs : Nat → Nat} {F : Nat → Int} {G : Nat → Nat} {V : Value} (h : w.ownsRow base 46 2 V (k + 1) (gL f n c o bs (k + 1))) (hB : GB w base k bs G) (hL : NumsAt w .u8 o n F) :
    ∃ a c', V = .slice a (k + 1) c' ∧ PieB w a (k + 1) (gA f) (gO o bs) (gN n) (gC c) (gB F G) w.heap.size := by
  obtain ⟨g, cap, rfl, hbg, hgl⟩ := h.form (by omega)
  have key : ∀ j, j < (k + 1) * 2 → w.cell? ⟨g, j, none⟩ = some (gV f n c o bs j) := fun j hj => (own_cell h (by rw [gL_get, if_pos hj])).1
  refine ⟨_, _, rfl, fun i hi => ⟨g, 0, rfl, hgl, ?_, ?_, ?_⟩⟩
  · rw [Nat.zero_add, key _ (by omega)]
    unfold gV
    rw [if_pos (by omega), show i * 2 / 2 = i from by omega]
  · rw [Nat.zero_add, key _ (by omega)]
    unfold gV
    rw [if_neg (by omega), show (i * 2 + 1) / 2 = i from by omega]
  · unfold gO gN gB
    by_cases h0 : i = 0
    · rw [if_pos h0, if_pos h0, if_pos h0]
      exact hL.toB (Nat.le_refl _)
    · rw [if_neg h0, if_neg h0, if_neg h0]
      intro j hj
      obtain ⟨_, hb⟩ := hB (i - 1) (by omega)
      refine ⟨bs (i - 1), 0, rfl, hb.lt, ?_⟩
      rw [Nat.zero_add, hb.cell]
      match j, hj with
      | 0, _ | 1, _ => rfl
theorem fltA_zero : (#[.int .i64 0, .int .i64 0] : Array Value) = fltA (0, 0) := rfl
set_option maxRecDepth 100000 in
set_option maxHeartbeats 4000000 in
theorem ctProgram_calls (t n c : Nat) (o : Option Addr) (F : Nat → Int) (G : Nat → Nat) (w : World) (ht : t < 65536) (hn : n ≤ maxLen) (hG : ∀ i, i < 5 → G i < 65536) (hL : NumsAt w .u8 o n F) (hfit : t % 8192 + n ≤ 8182) :
    Calls Try.prog 16 #[.int .u16 (t : Int), .slice o n c, .agg (arr 5 fun i => .int .u16 (G i : Int))] w fun e w' => ∃ g, e = .returned (.tuple #[.slice (some ⟨g, 0, none⟩) 8192 8192, .int .i64 0]) ∧ RW w' g 8192 (prg (t % 8192) n F G 5) ∧ w.heap.size ≤ g ∧ Below w.heap.size w w' := by
  obtain ⟨i1, hi', hy0, hy1, hy2⟩ := info_parts infoPie
  obtain ⟨f, hf⟩ : ∃ f, t % 8192 = f := ⟨_, rfl⟩
  have hof := fun W => phOff_calls t W (by omega)
  rw [hf] at hof hfit ⊢
  have j1 : (decide ((8182 : Int) - (f : Int) < (n : Int))) = false := by rw [decide_eq_false_iff_not]; omega
  have j2 : (f : Int) ≤ 8182 := by omega
  have hsz : ∀ W, (sizeOf 39).run Try.prog W = .ok 1 W := fun _ => by kernel_rfl
  have hix := fun k hk W => run_index_row (P := Try.prog) 40 39 5 Try.underlying40 hsz (fun _ => by kernel_rfl) (arr 5 fun i => .int .u16 (G i : Int)) .i64 k hk _ (arr_get 5 _ k hk) W
  have hX : Blk (w.alloc (.cells (arr 5 fun i => .int .u16 (G i : Int)) 40)) w.heap.size 40 (arr 5 fun i => .int .u16 (G i : Int)) := Blk.new _ _ _
  have hb1 : Below w.heap.size w (w.alloc (.cells (arr 5 fun i => .int .u16 (G i : Int)) 40)) := (Below.refl _ _).alloc (Nat.le_refl _) _
  go_enter Try.func16, Try.ntmps16
  go_wp2_with fail
  refine Cl.p (hof _) ?_
  generalize hw1 : w.alloc (.cells (arr 5 fun i => .int .u16 (G i : Int)) 40) = w1 at *
  have hs1 : w.heap.size + 1 = w1.heap.size := by rw [← hw1]; simp
  have hL1 : NumsAt w1 .u8 o n F := hL.below hb1 (Nat.le_refl _)
  have hlit := World.ownsRow_lit w1 (base := w.heap.size) (e := 46) (size := 2) #[.int .i64 (f : Int), .slice o n c] 1 (by omega) (by decide) rfl
  have hb2 : Below w.heap.size w (w1.alloc (.cells #[.int .i64 (f : Int), .slice o n c] 46)) := hb1.alloc hb1.size _
  have hX2 := hX.alloc (.cells #[.int .i64 (f : Int), .slice o n c] 46)
  go_upto_region 5 with fail
  generalize w1.alloc (.cells #[.int .i64 (f : Int), .slice o n c] 46) = w2 at *
  go_wp2_with (refine wpList_load_row rfl 40 _ rfl w.heap.size rfl _ (arr 5 fun i => .int .u16 (G i : Int)) (0, 0) _ hX2 Try.underlying40 rfl (by kernel_rfl) ?_)
  have hg1 : w2.ownsRow w.heap.size 46 2 (.slice (some ⟨w1.heap.size, 0, none⟩) 1 1) (0 + 1) (gL f n c o (fun _ => 0) (0 + 1)) := hlit
  clear hlit hX2 hof j1
  go_loopw [9, 28] (fun v i wr => ∃ (k : Nat) (V : Value), k ≤ 5 ∧ V = v ∧ i = .int .i64 (k : Int) ∧ (∃ bs, wr.ownsRow w.heap.size 46 2 V (k + 1) (gL f n c o bs (k + 1)) ∧ GB wr w.heap.size k bs G) ∧ Below w.heap.size w wr) (fun _ i _ => 5 - (intOf i).toNat)
  case atStart => exact ⟨0, _, by omega, rfl, rfl, ⟨fun _ => 0, hg1, fun i hi => by omega⟩, hb2⟩
  case round =>
    obtain ⟨k, VV, hk, rfl, rfl, ⟨bs, hown, hgb⟩, hbr⟩ := hrel
    have hbase := hbr.size
    by_cases hk5 : k < 5
    · have hk5' : (k : Int) < 5 := by omega
      have hi := hix k hk5
      have hGk := hG k hk5
      obtain ⟨x, hx⟩ : ∃ x, G k = x := ⟨_, rfl⟩
      rw [hx] at hi hGk
      obtain ⟨xl, hxl⟩ : ∃ y, x % 256 = y := ⟨_, rfl⟩
      obtain ⟨xh, hxh⟩ : ∃ y, x / 256 = y := ⟨_, rfl⟩
      have hlo := fun W => octLo_calls x W hGk
      have hhi := fun W => octHi_calls x W hGk
      rw [hxl] at hlo
      rw [hxh] at hhi
      have hB4 : Below wr.heap.size wr ((wr.alloc (.cells #[.int .u8 (xl : Int), .int .u8 (xh : Int)] 5)).alloc (.cells #[.int .i64 (8182 + 2 * (k : Int)), .slice (some ⟨wr.heap.size, 0, none⟩) 2 2] 46)) := ((Below.refl _ _).alloc (Nat.le_refl _) _).alloc (by simp) _
      have hown4 := own_keep hown (fun g' hg' => hB4.block g' (own_lt hown hg'))
      have hrow4 : Blk ((wr.alloc (.cells #[.int .u8 (xl : Int), .int .u8 (xh : Int)] 5)).alloc (.cells #[.int .i64 (8182 + 2 * (k : Int)), .slice (some ⟨wr.heap.size, 0, none⟩) 2 2] 46)) wr.heap.size 5 #[.int .u8 (xl : Int), .int .u8 (xh : Int)] := Blk.alloc (Blk.new _ _ _) _
      have hnew4 := heap_alloc_new (wr.alloc (.cells #[.int .u8 (xl : Int), .int .u8 (xh : Int)] 5)) (.cells #[.int .i64 (8182 + 2 * (k : Int)), .slice (some ⟨wr.heap.size, 0, none⟩) 2 2] 46)
      rw [show (wr.alloc (.cells #[.int .u8 (xl : Int), .int .u8 (xh : Int)] 5)).heap.size = wr.heap.size + 1 from by simp] at hnew4
      have hs4 := hB4.size
      clear hL hL1
      go_wp2_with fail
      refine Cl.p (hlo _) ?_
      go_wp2_with fail
      refine Cl.p (hhi _) ?_
      go_wp2_with (at_builtin; refine Shut.out ?_)
      unfold Shut
      generalize (wr.alloc (.cells #[.int .u8 (xl : Int), .int .u8 (xh : Int)] 5)).alloc (.cells #[.int .i64 (8182 + 2 * (k : Int)), .slice (some ⟨wr.heap.size, 0, none⟩) 2 2] 46) = w4 at *
      refine wpList_append_lies _ rfl (.tmp 32) (.tmp 42) 22 rfl w.heap.size 46 i1 _ 2 32 Try.underlying22 hi' hy0 hy1 hy2 rfl (by decide) _ (k + 1) (gL f n c o bs (k + 1)) rfl hown4 ⟨wr.heap.size + 1, 0, none⟩ 1 1
        [.int .i64 (8182 + 2 * (k : Int)), .slice (some ⟨wr.heap.size, 0, none⟩) 2 2] rfl rfl (World.news_of_block (cs := #[.int .i64 (8182 + 2 * (k : Int)), .slice (some ⟨wr.heap.size, 0, none⟩) 2 2]) (t := 46) (fr := (0, 0)) hnew4) (by simp [Value.oneCell']) (by omega) (by unfold maxLen; omega) (by omega) (by omega) _ rfl ?_
      intro gg cap w5 hown5 hgrow5 hat5 hlt5
      have e1 : (8182 : Int) + 2 * (k : Int) = ((8182 + 2 * k : Nat) : Int) := by omega
      rw [e1, ← gL_snoc] at hown5
      have hb5 : Below w.heap.size w w5 := (hbr.trans (hB4.mono hbase)).grown hgrow5 (by omega) (fun k hk => (own_blk hown4 hk).1)
      have hgb5 : GB w5 w.heap.size (k + 1) (fun i => if i = k then wr.heap.size else bs i) G := fun i hi => by
        dsimp only
        by_cases e : i = k
        · subst e
          rw [if_pos rfl, hx, hxl, hxh]
          exact ⟨hbase, (hgrow5.block _ hrow4.lt (own_blk_ne hown4 hrow4 (by decide))).trans hrow4⟩
        · rw [if_neg e]
          obtain ⟨q1, q2⟩ := hgb i (by omega)
          have q3 := q2.below hB4 q2.lt
          exact ⟨q1, (hgrow5.block _ q3.lt (own_blk_ne hown4 q3 (by decide))).trans q3⟩
      have HO := hide hown5
      have HG := hide hgb5
      clear hown hown4 hgrow5 hrow4 hnew4 hgb hown5 hgb5 hlo hhi hi hix hx hxl hxh hfit hG hs4 e1 hg1 hlt5 hat5 hB4
      go_wp2_with fail
      go_roundw
      case rel => exact ⟨k + 1, _, by omega, rfl, by go_num, ⟨_, HO.out, HG.out⟩, hb5⟩
      case measure => simp [intOf]; omega
    · obtain rfl : k = 5 := by omega
      obtain ⟨a, c', rfl, hP⟩ := g_pieces hown hgb (hL.below hbr (Nat.le_refl _))
      have hfits := gFits f n hfit
      have HF := hide hfits
      clear hown hgb hL hL1 hfits hix
      go_wp2_with fail
      refine (mk_walk 1 8192 a 6 c' (gA f) (gO o bs) (gN n) (gC c) (gB F G) wr (by omega) rfl (by decide) hP).mono ?_
      rintro e w6 ⟨hb6, ⟨i, hi6, _, hnf, _⟩ | ⟨_, g, rfl, hR6, hg6⟩⟩
      · exact absurd (HF.out i hi6) hnf
      · rw [gF_prg f n F G 5] at hR6
        have hb06 := hbr.trans (hb6.mono hbase)
        have hz : Blk (w6.alloc (.cells #[.int .i64 0, .int .i64 0] 28)) w6.heap.size 28 #[.int .i64 0, .int .i64 0] := Blk.new _ _ _
        have hb7 : Below w.heap.size w (w6.alloc (.cells (fltA (0, 0)) 28)) := hb06.alloc hb06.size _
        have hR7 : RW (w6.alloc (.cells (fltA (0, 0)) 28)) g 8192 (prg f n F G 5) := Blk.alloc hR6 _
        clear HF hP
        go_wp2_with (refine wpList_store_row rfl 28 _ _ rfl w6.heap.size _ rfl rfl 28 _ hz (by kernel_rfl) rfl (by kernel_rfl) ?_; rw [setRow_new])
        go_ret2
        exact ⟨g, rfl, hR7, by omega, hb7⟩
end Go.Proofs.Ytafabjmeeccifaa
