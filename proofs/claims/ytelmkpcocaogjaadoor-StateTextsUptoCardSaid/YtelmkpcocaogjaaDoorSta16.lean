/-
  Package state: pagesOf.
-/
import Derived.Test.YtelmkpcocaogjaaDoorSta15
namespace Go.Proofs.YtelmkpcocaogjaaDoor
open Go.RowKit Pl

def pgC (part : List UInt8) (k j : Nat) : Value := .int .u8 ((if j < k then bankP part j else 0 : Nat) : Int)
theorem bankP_get (part : List UInt8) (k : Nat) (d : List UInt8) (h : (Lib.split (Lib.trimPrefix part [77, 61]) [46])[k]? = some d) : bankP part k = (fh d).1 % 256 := by
  unfold bankP
  rw [h]
theorem bankP_past (part : List UInt8) (k : Nat) (h : (Lib.split (Lib.trimPrefix part [77, 61]) [46]).length ≤ k) : bankP part k = 0 := by
  unfold bankP
  rw [List.getElem?_eq_none h]
theorem pgC_step (part : List UInt8) (k : Nat) : ∀ i, i < 8 → updv (pgC part k) k (.int .u8 (bankP part k : Int)) i = pgC part (k + 1) i := fun i _ => by
  unfold updv pgC
  by_cases e : i = k
  · subst e; rw [if_pos rfl, if_pos (by omega)]
  · rw [if_neg e]
    by_cases h : i < k
    · rw [if_pos h, if_pos (by omega)]
    · rw [if_neg h, if_neg (by omega)]
theorem pgC_over (part : List UInt8) (k : Nat) (h : 8 ≤ k) : arr 8 (pgC part k) = arr 8 (pgC part (k + 1)) := arr_congr fun i hi => by unfold pgC; rw [if_pos (by omega), if_pos (by omega)]
theorem split_len (l : List UInt8) (c : UInt8) : (Lib.split l [c]).length ≤ l.length + 2 := by
  rw [← split_count]
  have : Lib.countB (str l) (str [c]) ≤ l.length + 1 := Lib.count_le l [c]
  omega
theorem part_len : ∀ (n : Nat) (l : List UInt8) (c : UInt8) (x : List UInt8), l.length ≤ n → x ∈ Lib.split l [c] → x.length ≤ n := by
  have key : ∀ (k : Nat) (l : List UInt8) (c : UInt8) (n : Nat) (x : List UInt8), l.length ≤ n → x ∈ Lib.splitK [c] 0 k l → x.length ≤ n := by
    intro k
    induction k with
    | zero => intro l c n x hl hx; simp [Lib.splitK] at hx; subst hx; exact hl
    | succ k ih =>
      intro l c n x hl hx
      unfold Lib.splitK at hx
      split at hx
      · simp at hx; subst hx; exact hl
      · rcases List.mem_cons.1 hx with h | h
        · subst h; exact Nat.le_trans (by rw [List.length_take]; exact Nat.min_le_right _ _) hl
        · exact ih _ c n x (by rw [List.length_drop]; omega) h
  intro n l c x hl hx
  exact key _ l c n x hl hx
set_option maxRecDepth 100000 in
set_option maxHeartbeats 1000000 in
theorem stPages_calls (part : List UInt8) (M : Int) (w : World) (hp : part.length ≤ 1500000) (hM : w.cell? ⟨0, 0, none⟩ = some (.int .i64 M)) :
    Calls Tryd.prog 31 #[.string (str part)] w fun e w' => e = .returned (.agg (arr 8 fun j => .int .u8 (bankP part j : Int))) ∧ Below w.heap.size w w' := by
  have h0 : 0 < w.heap.size := World.block_lt_of_cell? w _ hM
  obtain ⟨l, hl⟩ : ∃ l, Lib.trimPrefix part [77, 61] = l := ⟨_, rfl⟩
  have hll : l.length ≤ 1500000 := by
    rw [← hl]
    unfold Lib.trimPrefix
    split
    · rw [List.length_drop]; omega
    · exact hp
  have hbg := bankP_get part
  have hbp := bankP_past part
  rw [hl] at hbg hbp
  have hsl := split_len l 46
  have hpl := fun x hx => part_len 1500000 l 46 x hll hx
  have hfld : ∀ w, Calls Tryd.prog 29 #[.string (str part), .string (str [77])] w fun e w' => e = .returned (.tuple #[.string (str l), .bool (Lib.hasPrefix part [77, 61])]) ∧ w = w' := fun w => by
    have := stField_calls part [77] w (by decide)
    rw [show ([77] ++ [61] : List UInt8) = [77, 61] from rfl, hl] at this
    exact this
  obtain ⟨P, hP⟩ : ∃ P, Lib.split l [46] = P := ⟨_, rfl⟩
  rw [hP] at hbg hbp hsl hpl
  have hspl : ∀ W : World, Below w.heap.size w W → Calls Tryd.prog 28 #[.string (str l), .string (str [46])] W fun e w' => e = .returned (.slice (some ⟨W.heap.size, 0, none⟩) P.length P.length) ∧ w' = W.alloc (.cells (srow P) 9) := fun W hW => by
    have := stSplit_calls l 46 M W (by omega) ((hW.cell (p := ⟨0, 0, none⟩) h0).trans hM)
    rw [hP] at this
    exact this
  clear hP hl
  have hR : Blk ((w.alloc (.cells (arr 8 fun _ => .int .u8 0) 23)).alloc (.cells (arr 8 fun _ => .int .u8 0) 23)) w.heap.size 23 (arr 8 fun _ => .int .u8 0) := Blk.alloc (Blk.new _ _ _) _
  have hO : Blk ((w.alloc (.cells (arr 8 fun _ => .int .u8 0) 23)).alloc (.cells (arr 8 fun _ => .int .u8 0) 23)) (w.heap.size + 1) 23 (arr 8 (pgC part 0)) := Blk.newAt (by simp)
  have hb : Below w.heap.size w ((w.alloc (.cells (arr 8 fun _ => .int .u8 0) 23)).alloc (.cells (arr 8 fun _ => .int .u8 0) 23)) := Bl.alloc (Bl.alloc (Below.refl _ _) _) _
  go_enter Tryd.func31, Tryd.ntmps31
  (go_wp2_with fail; refine Cl.p (hfld _) ?_)
  go_wp2_with fail
  refine (hspl _ (by exact hb)).mono ?_
  rintro e w1 ⟨rfl, rfl⟩
  have hS : Blk (((w.alloc (.cells (arr 8 fun _ => .int .u8 0) 23)).alloc (.cells (arr 8 fun _ => .int .u8 0) 23)).alloc (.cells (srow P) 9)) (w.heap.size + 1 + 1) 9 (srow P) := Blk.newAt (by simp)
  have hR1 := hR.alloc (.cells (srow P) 9)
  have hO1 := hO.alloc (.cells (srow P) 9)
  have hb1 := Bl.alloc hb (.cells (srow P) 9)
  clear hR hO hb hspl hfld
  go_wp2_with fail
  go_loopw [18] (fun i wr => ∃ k : Nat, k ≤ P.length ∧ i = .int .i64 (k : Int) ∧ Blk wr w.heap.size 23 (arr 8 fun _ => .int .u8 0) ∧ Blk wr (w.heap.size + 1) 23 (arr 8 (pgC part k)) ∧ Blk wr (w.heap.size + 1 + 1) 9 (srow P) ∧ Below w.heap.size w wr) (fun i _ => P.length - (intOf i).toNat)
  case atStart => exact ⟨0, Nat.zero_le _, rfl, hR1, hO1, hS, hb1⟩
  case round =>
    obtain ⟨k, hk, rfl, hRr, hOr, hSr, hbr⟩ := hrel
    clear hR1 hO1 hS hb1
    by_cases hlt : k < P.length
    · have hlt' : (k : Int) < (P.length : Int) := by omega
      have hd := List.getElem?_eq_getElem hlt
      obtain ⟨d, hde⟩ : ∃ d, P[k] = d := ⟨_, rfl⟩
      rw [hde] at hd
      have hdm : d ∈ P := by rw [← hde]; exact List.getElem_mem hlt
      have hdl := hpl d hdm
      have c0 : wr.cell? ⟨w.heap.size + 1 + 1, k, none⟩ = some (.string (str d)) := (hSr.cell k).trans (srow_get P k d hd)
      have hbk := hbg k d hd
      clear hde hdm
      by_cases h8 : k < 8
      · have h8' : (k : Int) < 8 := by omega
        have hcon : ∀ W, Calls Tryd.prog 54 #[.string (str d)] W fun e w' => e = .returned (.tuple #[.int .u32 ((fh d).1 : Int), .int .i64 ((fh d).2 : Int)]) ∧ W = w' := fun W => by
          have := octFromHex_calls (str d) W (by rw [strn]; unfold maxLen; omega)
          rw [str_toList] at this
          exact this
        have hq : IntKind.u8.wrap (((fh d).1 : Nat) : Int) = ((bankP part k : Nat) : Int) := by
          rw [IntKind.wrap_u8, hbk]
          omega
        generalize fh d = p at hcon hq
        obtain ⟨b, hbb⟩ : ∃ b, bankP part k = b := ⟨_, rfl⟩
        have c1 : wr.cell? ⟨w.heap.size + 1, k, none⟩ = some (.int .u8 0) := by
          rw [hOr.cell, arr_get 8 _ k h8]
          unfold pgC
          rw [if_neg (by omega)]
          rfl
        have f1 : wr.frozen? ⟨w.heap.size + 1, k, none⟩ = false := hOr.frozen k
        have hO2 := hOr.set_ k (.int .u8 (bankP part k : Int))
        rw [arr_set 8 _ k _ h8, arr_congr (pgC_step part k), hbb] at hO2
        have hR2 := hRr.far (p := ⟨w.heap.size + 1, k, none⟩) (by dsimp only; omega) (.int .u8 (b : Int))
        have hS2 := hSr.far (p := ⟨w.heap.size + 1, k, none⟩) (by dsimp only; omega) (.int .u8 (b : Int))
        have hb2 := hbr.setCell (p := ⟨w.heap.size + 1, k, none⟩) (by dsimp only; omega) (.int .u8 (b : Int))
        rw [hbb] at hq
        clear hbb hbk hd hOr hRr hSr hbr hbg hbp hpl
        go_wp2_with fail
        refine (hcon _).mono ?_
        rintro e w' ⟨rfl, rfl⟩
        clear hcon
        go_wp2_with fail
        go_roundw
        case rel => exact ⟨k + 1, by omega, by go_num, hR2, hO2, hS2, hb2⟩
        case measure => simp [intOf]; omega
      · have h8' : (decide ((k : Int) < 8)) = false := by rw [decide_eq_false_iff_not]; omega
        have hov := pgC_over part k (by omega)
        rw [hov] at hOr
        clear hov h8 hbk hd hbg hbp hpl
        go_wp2_with fail
        go_roundw
        case rel => exact ⟨k + 1, by omega, by go_num, hRr, hOr, hSr, hbr⟩
        case measure => simp [intOf]; omega
    · obtain rfl : k = P.length := by omega
      have hfin : arr 8 (pgC part P.length) = arr 8 fun j => .int .u8 (bankP part j : Int) := arr_congr fun j hj => by
        unfold pgC
        by_cases h : j < P.length
        · rw [if_pos h]
        · rw [if_neg h, hbp j (by omega)]
      rw [hfin] at hOr
      clear hfin hbg hbp hpl
      go_wp2_with (first
        | (refine wpList_load_row rfl 23 _ rfl (w.heap.size + 1) rfl _ (arr 8 fun j => .int .u8 (bankP part j : Int)) (0, 0) _ hOr Tryd.underlying23 rfl (by kernel_rfl) ?_)
        | (refine wpList_store_row rfl 23 _ _ rfl w.heap.size (arr 8 fun j => .int .u8 (bankP part j : Int)) rfl rfl 23 _ hRr (by kernel_rfl) rfl (by kernel_rfl) ?_))
      exact bodyPost_ret (results_cell_row rfl _ _ w.heap.size 23 (arr 8 fun j => .int .u8 (bankP part j : Int)) (0, 0) _ rfl (hRr.setRow _) Tryd.underlying23 rfl (by kernel_rfl)) rfl ⟨rfl, below_setRow hbr (Nat.le_refl _) _⟩
end Go.Proofs.YtelmkpcocaogjaaDoor
