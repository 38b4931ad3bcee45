/-
  Package timing: head, rest, join, all, Count.
-/
import Derived.Test.YtodimiffmmkndaaDoorTm1
namespace Go.Proofs.YtodimiffmmkndaaDoor
set_option linter.unusedSimpArgs false
set_option linter.unusedVariables false
set_option maxRecDepth 10000
open Go.RowKit Go.Shelf Pl
theorem bs_size (l : List UInt8) : (⟨l.toArray⟩ : ByteArray).size = l.length := by simp [ByteArray.size]
theorem rep_calls (l : List UInt8) (c : Nat) (w : World) (hl : l.length ≤ 10) (hc : c ≤ 1000) :
    Calls Tryd.prog 30 #[.string ⟨l.toArray⟩, .int .i64 (c : Int)] w fun e w' => e = .returned (.string ⟨(Lib.repeatL l c).toArray⟩) ∧ Below w.heap.size w w' :=
  Tryd.strings_Repeat ⟨l.toArray⟩ c w (by omega) (by
    rw [bs_size]
    have : l.length * c ≤ 10 * 1000 := Nat.mul_le_mul hl hc
    omega)
theorem rep_len (l : List UInt8) (c k : Nat) (hl : l.length ≤ 1) (hc : c ≤ k) : (Lib.repeatL l c).length ≤ k := by
  rw [Lib.repeatL_length]
  have : c * l.length ≤ c * 1 := Nat.mul_le_mul_left _ hl
  omega
theorem tj3_calls (bk : Nat) (x y u : List UInt8) (w : World) (hB : Blk w bk 9 #[.string ⟨x.toArray⟩, .string ⟨y.toArray⟩, .string ⟨u.toArray⟩]) (hx : x.length ≤ 400) (hy : y.length ≤ 400) (hu : u.length ≤ 400) :
    Calls Tryd.prog 29 #[.slice (some ⟨bk, 0, none⟩) 3 3] w fun e w' => e = .returned (.string ⟨(x ++ (y ++ u)).toArray⟩) ∧ Below w.heap.size w w' := by
  have hm : ([x, y, u].map fun x => (⟨x.toArray⟩ : ByteArray)).map (fun b : ByteArray => b.data.toList) = [x, y, u] := by
    rw [List.map_map]
    exact List.map_id' _
  have he : Lib.join [x, y, u] [] = x ++ (y ++ u) := by simp [Lib.join, List.intercalate]
  have h := Tryd.strings_Join bk 0 3 ([x, y, u].map fun x => (⟨x.toArray⟩ : ByteArray)) ⟨#[]⟩ w (fun j z hj => by
    rw [Nat.zero_add, hB.cell]
    match j, hj with
    | 0, hj => obtain rfl := Option.some.inj hj; rfl
    | 1, hj => obtain rfl := Option.some.inj hj; rfl
    | 2, hj => obtain rfl := Option.some.inj hj; rfl
    | n + 3, hj => simp at hj) hB.lt (show 3 ≤ _ by omega) (show 3 ≤ 3 by omega) (by
    rw [hm]
    show (Lib.join [x, y, u] []).length ≤ _
    rw [he]
    simp only [List.length_append]
    omega)
  rw [hm] at h
  have h : Calls Tryd.prog 21 #[.slice (some ⟨bk, 0, none⟩) 3 3, .string ⟨#[]⟩] w fun e w' => e = .returned (.string ⟨(Lib.join [x, y, u] []).toArray⟩) ∧ Below w.heap.size w w' := h
  rw [he] at h
  go_enter Tryd.func29, Tryd.ntmps29
  go_wp2_with fail
  refine Cl.m h ?_
  intro w1 hb1
  go_wp2_with fail
  go_ret
  exact ⟨rfl, hb1⟩
def thdS (z : Nat) : List UInt8 := 70 :: Lib.repeatL [79] (z - 1)
theorem thd_calls (s : ByteArray) (q z : Nat) (cy : Int) (w : World) (hz : 1 ≤ z ∧ z ≤ 7) :
    Calls Tryd.prog 31 #[.agg #[Value.string s, Value.int .u8 (q : Int), Value.int .i64 (z : Int), Value.int .i64 cy]] w fun e w' => e = .returned (.string ⟨(thdS z).toArray⟩) ∧ Below w.heap.size w w' := by
  have hrp := fun W => rep_calls [79] (z - 1) W (by decide) (by omega)
  have hl := rep_len [79] (z - 1) 6 (by decide) (by omega)
  have hz1 : (z : Int) - 1 = ((z - 1 : Nat) : Int) := by omega
  unfold thdS
  generalize Lib.repeatL [79] (z - 1) = r at *
  generalize z - 1 = y at *
  go_enter Tryd.func31, Tryd.ntmps31
  go_wp2_with fail
  refine Cl.m (hrp _) ?_
  intro w1 hb1
  go_wp2_with fail
  go_ret
  exact ⟨rfl, by (repeat (first | exact Below.refl _ _ | assumption | refine Below.drew ?_ | refine Bl.alloc ?_ _ | refine below_drewN ?_ _ | refine Bl.chain ?_ (by assumption) (Nat.le_refl _)))⟩
def trsS (s : ByteArray) (q z : Nat) (cy : Int) : List UInt8 :=
  if (nmdS s).2 then (nmdS s).1 else if q = 0 ∨ q = 1 ∨ q = 11 then Lib.repeatL [68] (cy - z).toNat else tplS s q
theorem trsS_le (s : ByteArray) (q z : Nat) (cy : Int) (hcy : (q = 0 ∨ q = 1 ∨ q = 11) → (nmdS s).2 = false → (z : Int) ≤ cy ∧ cy ≤ 22) : (trsS s q z cy).length ≤ 30 := by
  unfold trsS
  split
  · have := nmdS_le s; omega
  split
  · rename_i h1 h2
    have := hcy h2 (by simpa using h1)
    exact Nat.le_trans (rep_len [68] (cy - z).toNat 22 (by decide) (by omega)) (by omega)
  · have := tplS_le s q; omega
set_option maxHeartbeats 4000000 in
theorem trs_calls (s : ByteArray) (q z : Nat) (cy : Int) (w : World) (hq : q < 20) (hs : s.size ≤ 4) (hcy : (q = 0 ∨ q = 1 ∨ q = 11) → (nmdS s).2 = false → (z : Int) ≤ cy ∧ cy ≤ 22) :
    Calls Tryd.prog 32 #[.agg #[Value.string s, Value.int .u8 (q : Int), Value.int .i64 (z : Int), Value.int .i64 cy]] w fun e w' => e = .returned (.string ⟨(trsS s q z cy).toArray⟩) ∧ Below w.heap.size w w' := by
  have hX : Blk (w.alloc (.cells #[Value.string s, Value.int .u8 (q : Int), Value.int .i64 (z : Int), Value.int .i64 cy] 30)) w.heap.size 30 #[Value.string s, Value.int .u8 (q : Int), Value.int .i64 (z : Int), Value.int .i64 cy] := Blk.new _ _ _
  have hbX : Below w.heap.size w (w.alloc (.cells #[Value.string s, Value.int .u8 (q : Int), Value.int .i64 (z : Int), Value.int .i64 cy] 30)) := Bl.alloc (Below.refl _ _) _
  have hnm := fun W => nmd_calls s W
  have hpl := fun W => tpl_calls s q z cy W hq hs
  unfold trsS
  generalize nmdS s = st at *
  obtain ⟨a, ba⟩ := st
  cases ba
  case true =>
    clear hX hcy hpl
    go_enter Tryd.func32, Tryd.ntmps32
    go_wp2_with fail
    refine Cl.p (hnm _) ?_
    go_wp2_with fail
    go_ret
    exact ⟨rfl, by (repeat (first | exact Below.refl _ _ | assumption | refine Below.drew ?_ | refine Bl.alloc ?_ _ | refine below_drewN ?_ _ | refine Bl.chain ?_ (by assumption) (Nat.le_refl _)))⟩
  case false =>
    by_cases h3 : q = 0 ∨ q = 1 ∨ q = 11
    · obtain ⟨c1, c2⟩ := hcy h3 rfl
      obtain ⟨k, hk, hk2⟩ : ∃ k : Nat, cy - (z : Int) = (k : Int) ∧ k ≤ 22 := ⟨(cy - z).toNat, by omega, by omega⟩
      have hkt : (cy - (z : Int)).toNat = k := by omega
      show Calls _ _ _ _ fun e w' => e = .returned (.string ⟨(if q = 0 ∨ q = 1 ∨ q = 11 then Lib.repeatL [68] (cy - z).toNat else tplS s q).toArray⟩) ∧ _
      rw [if_pos h3, hkt]
      have hrp := fun W => rep_calls [68] k W (by decide) (by omega)
      clear hkt hcy hpl hX
      rcases h3 with rfl | rfl | rfl
      all_goals
        go_enter Tryd.func32, Tryd.ntmps32
        go_wp2_with fail
        refine Cl.p (hnm _) ?_
        go_wp2_with fail
        refine Cl.m (hrp _) ?_
        intro w1 hb1
        go_wp2_with fail
        go_ret
        exact ⟨rfl, by (repeat (first | exact Below.refl _ _ | assumption | refine Below.drew ?_ | refine Bl.alloc ?_ _ | refine below_drewN ?_ _ | refine Bl.chain ?_ (by assumption) (Nat.le_refl _)))⟩
    · have n0 : ((q : Int) == 0) = false := by rw [beq_eq_false_iff_ne]; omega
      have n1 : ((q : Int) == 1) = false := by rw [beq_eq_false_iff_ne]; omega
      have n2 : ((q : Int) == 11) = false := by rw [beq_eq_false_iff_ne]; omega
      show Calls _ _ _ _ fun e w' => e = .returned (.string ⟨(if q = 0 ∨ q = 1 ∨ q = 11 then Lib.repeatL [68] (cy - z).toNat else tplS s q).toArray⟩) ∧ _
      rw [if_neg h3]
      clear hcy
      go_enter Tryd.func32, Tryd.ntmps32
      go_wp2_with fail
      refine Cl.p (hnm _) ?_
      go_wp2_with (refine wpList_load_row rfl 30 _ rfl w.heap.size rfl _ #[Value.string s, Value.int .u8 (q : Int), Value.int .i64 (z : Int), Value.int .i64 cy] (0, 0) _ hX Tryd.underlying30 rfl (by kernel_rfl) ?_)
      refine Cl.m (hpl _) ?_
      intro w1 hb1
      go_wp2_with fail
      go_ret
      exact ⟨rfl, by (repeat (first | exact Below.refl _ _ | assumption | refine Below.drew ?_ | refine Bl.alloc ?_ _ | refine below_drewN ?_ _ | refine Bl.chain ?_ (by assumption) (Nat.le_refl _)))⟩
def allS (s : ByteArray) (q z : Nat) (cy : Int) : List UInt8 :=
  if q = 19 then [70, 80, 80, 80, 79, 79, 79, 79, 79, 79, 68] ++ ([] ++ [68, 85, 85, 85, 68, 68]) else thdS z ++ (trsS s q z cy ++ tlgS s q)
set_option maxHeartbeats 4000000 in
theorem all_calls (b : Nat) (M : Int) (w : World) (hb : b < 256) (hM : w.cell? ⟨0, 0, none⟩ = some (.int .i64 M)) (s : ByteArray) (q z : Nat) (cy : Int) (ho : opV b = #[Value.string s, Value.int .u8 (q : Int), Value.int .i64 (z : Int), Value.int .i64 cy]) (hq : q < 20) (hs : s.size ≤ 4) (hz : 1 ≤ z ∧ z ≤ 7)
    (hcy : (q = 0 ∨ q = 1 ∨ q = 11) → (nmdS s).2 = false → (z : Int) ≤ cy ∧ cy ≤ 22) :
    Calls Tryd.prog 13 #[.int .u8 (b : Int), .agg #[Value.bool true, Value.bool true, Value.bool true, Value.int .i64 0]] w fun e w' => e = .returned (.string ⟨(allS s q z cy).toArray⟩) ∧ Below w.heap.size w w' := by
  have hF0 : Blk (w.alloc (.cells #[Value.bool true, Value.bool true, Value.bool true, Value.int .i64 0] 27)) w.heap.size 27 #[Value.bool true, Value.bool true, Value.bool true, Value.int .i64 0] := Blk.new _ _ _
  have hbF : Below w.heap.size w (w.alloc (.cells #[Value.bool true, Value.bool true, Value.bool true, Value.int .i64 0] 27)) := Bl.alloc (Below.refl _ _) _
  have hM1 := (hbF.cell (p := ⟨0, 0, none⟩) (cell_lt hM)).trans hM
  have hof := opOf_calls b M _ hb hM1
  rw [ho] at hof
  have hhd := fun W => thd_calls s q z cy W hz
  have hrs := fun W => trs_calls s q z cy W hq hs hcy
  have hlg := fun W => tlg_calls s q z cy W hq
  have l1 : (thdS z).length ≤ 7 := by
    have := rep_len [79] (z - 1) 6 (by decide) (by omega)
    unfold thdS
    rw [List.length_cons]
    omega
  have l2 := trsS_le s q z cy hcy
  have l3 := tlgS_le s q
  have hr0 := fun W => rep_calls [68, 76, 68, 68, 83, 68] 0 W (by decide) (by decide)
  clear hcy ho hM
  unfold allS
  by_cases h19 : q = 19
  · subst h19
    rw [if_pos rfl]
    clear hhd hrs hlg l1 l2 l3 hF0
    have hof : Calls Tryd.prog 8 #[.int .u8 (b : Int)] (w.alloc (.cells #[Value.bool true, Value.bool true, Value.bool true, Value.int .i64 0] 27)) fun e w' => e = .returned (.agg #[.string s, .int .u8 19, .int .i64 (z : Int), .int .i64 cy]) ∧ Below (w.alloc (.cells #[Value.bool true, Value.bool true, Value.bool true, Value.int .i64 0] 27)).heap.size (w.alloc (.cells #[Value.bool true, Value.bool true, Value.bool true, Value.int .i64 0] 27)) w' := hof
    have hr0 : ∀ W, Calls Tryd.prog 30 #[.string ⟨#[68, 76, 68, 68, 83, 68]⟩, .int .i64 0] W fun e w' => e = .returned (.string ⟨#[]⟩) ∧ Below W.heap.size W w' := hr0
    have hF0 : Blk (w.alloc (.cells #[Value.bool true, Value.bool true, Value.bool true, Value.int .i64 0] 27)) w.heap.size 27 #[Value.bool true, Value.bool true, Value.bool true, Value.int .i64 0] := Blk.new _ _ _
    go_enter Tryd.func13, Tryd.ntmps13
    go_wp2_with fail
    refine Cl.m hof ?_
    intro w1 hb1
    have hb01 : Below w.heap.size w w1 := hbF.trans (hb1.mono hbF.size)
    have hF1 := (hF0.below hb1 hF0.lt)
    have hF2 := (hF1.alloc (.cells #[.string s, .int .u8 19, .int .i64 (z : Int), .int .i64 cy] 30)).cell 3
    have hb02 : Below w.heap.size w (w1.alloc (.cells #[.string s, .int .u8 19, .int .i64 (z : Int), .int .i64 cy] 30)) := Bl.alloc hb01 _
    clear hb1 hof hM1
    go_wp2_with fail
    refine Cl.m (hr0 _) ?_
    intro w2 hb2
    have hb03 := hb02.trans (hb2.mono hb02.size)
    clear hb2 hb02 hF2 hF1
    go_wp2_with fail
    refine Cl.m (tj3_calls w2.heap.size [70, 80, 80, 80, 79, 79, 79, 79, 79, 79, 68] [] [68, 85, 85, 85, 68, 68] _ (Blk.new _ _ _) (by decide) (by decide) (by decide)) ?_
    intro w3 hb3
    have hb04 : Below w.heap.size w (w2.alloc _) := Bl.alloc hb03 (.cells #[.string ⟨#[70, 80, 80, 80, 79, 79, 79, 79, 79, 79, 68]⟩, .string ⟨#[]⟩, .string ⟨#[68, 85, 85, 85, 68, 68]⟩] 9)
    go_wp2_with fail
    go_ret
    exact ⟨rfl, hb04.trans (hb3.mono hb04.size)⟩
  · have n19 : ((q : Int) == 19) = false := by rw [beq_eq_false_iff_ne]; omega
    rw [if_neg h19]
    clear hr0
    go_enter Tryd.func13, Tryd.ntmps13
    go_wp2_with fail
    refine Cl.m hof ?_
    intro w1 hb1
    have hb01 : Below w.heap.size w w1 := hbF.trans (hb1.mono hbF.size)
    have hF1 := (hF0.below hb1 hF0.lt).alloc (.cells #[Value.string s, Value.int .u8 (q : Int), Value.int .i64 (z : Int), Value.int .i64 cy] 30)
    have hO1 : Blk (w1.alloc (.cells #[Value.string s, Value.int .u8 (q : Int), Value.int .i64 (z : Int), Value.int .i64 cy] 30)) w1.heap.size 30 #[Value.string s, Value.int .u8 (q : Int), Value.int .i64 (z : Int), Value.int .i64 cy] := Blk.new _ _ _
    have hb02 : Below w.heap.size w (w1.alloc (.cells #[Value.string s, Value.int .u8 (q : Int), Value.int .i64 (z : Int), Value.int .i64 cy] 30)) := Bl.alloc hb01 _
    clear hb1 hof hM1 hF0 hbF hb01 h19
    go_wp2_with fail
    generalize w1.alloc (.cells #[Value.string s, Value.int .u8 (q : Int), Value.int .i64 (z : Int), Value.int .i64 cy] 30) = w2 at *
    generalize w1.heap.size = g at *
    refine wp_region_held_drew (S := fun W => Blk W g 30 #[Value.string s, Value.int .u8 (q : Int), Value.int .i64 (z : Int), Value.int .i64 cy] ∧ Blk W w.heap.size 27 #[Value.bool true, Value.bool true, Value.bool true, Value.int .i64 0] ∧ Below w.heap.size w W) (by kernel_rfl) ⟨(by first | exact hO1.drew | exact hO1 | exact Below.drew hO1), (by first | exact hF1.drew | exact hF1 | exact Below.drew hF1), (by first | exact hb02.drew | exact hb02 | exact Below.drew hb02)⟩ (fun hS0 => ?_)
    clear hO1 hF1 hb02
    change wpAnyH _ _ _ _ _ 10 #[false, false, false, false, false, false, false, false, false, false] _ _
    generalize w2.drew = v0 at *
    refine wpAnyH_take (i := 0) (v := .agg #[Value.string s, Value.int .u8 (q : Int), Value.int .i64 (z : Int), Value.int .i64 cy]) rfl (by kernel_rfl) (by kernel_rfl) (by kernel_rfl) (fun _ _ _ h => h) (YieldsIf.row_w (by rfl) 30 _ rfl g rfl _ _ _ (fun _ h => h.1) Tryd.underlying30 rfl (by kernel_rfl)) hS0 ?_
    simp only [List.getElem_toArray, List.getElem_cons_zero, List.getElem_cons_succ, Act.put, List.setIfInBounds_toArray, List.set_cons_zero, List.set_cons_succ]
    refine wpAnyH_take (i := 2) (v := .agg #[Value.string s, Value.int .u8 (q : Int), Value.int .i64 (z : Int), Value.int .i64 cy]) rfl (by kernel_rfl) (by kernel_rfl) (by kernel_rfl) (fun _ _ _ h => h) (YieldsIf.row_w (by rfl) 30 _ rfl g rfl _ _ _ (fun _ h => h.1) Tryd.underlying30 rfl (by kernel_rfl)) hS0 ?_
    simp only [List.getElem_toArray, List.getElem_cons_zero, List.getElem_cons_succ, Act.put, List.setIfInBounds_toArray, List.set_cons_zero, List.set_cons_succ]
    refine wpAnyH_take (i := 4) (v := .agg #[Value.string s, Value.int .u8 (q : Int), Value.int .i64 (z : Int), Value.int .i64 cy]) rfl (by kernel_rfl) (by kernel_rfl) (by kernel_rfl) (fun _ _ _ h => h) (YieldsIf.row_w (by rfl) 30 _ rfl g rfl _ _ _ (fun _ h => h.1) Tryd.underlying30 rfl (by kernel_rfl)) hS0 ?_
    simp only [List.getElem_toArray, List.getElem_cons_zero, List.getElem_cons_succ, Act.put, List.setIfInBounds_toArray, List.set_cons_zero, List.set_cons_succ]
    refine wpAnyH_take (i := 5) (v := .agg #[Value.bool true, Value.bool true, Value.bool true, Value.int .i64 0]) rfl (by kernel_rfl) (by kernel_rfl) (by kernel_rfl) (fun _ _ _ h => h) (YieldsIf.row_w (by rfl) 27 _ rfl w.heap.size rfl _ _ _ (fun _ h => h.2.1) Tryd.underlying27 rfl (by kernel_rfl)) hS0 ?_
    simp only [List.getElem_toArray, List.getElem_cons_zero, List.getElem_cons_succ, Act.put, List.setIfInBounds_toArray, List.set_cons_zero, List.set_cons_succ]
    refine wpAnyH_ready (rs := [1]) (by kernel_rfl) (by simp) ?_
    refine AllReadyH.cons rfl (fun K hK => ?_) AllReadyH.nil
    go_simp
    refine (hhd _).mono ?_
    rintro e v1 ⟨rfl, hb1⟩
    (try go_simp)
    refine hK.out _ _ ⟨(by first | exact hS0.1.below hb1 hS0.1.lt | exact hS0.1.trans (hb1.mono hS0.1.size) | exact hS0.1.trans (hb1.mono (by have := hS0.1.size; omega)) | exact (hb1.cell (cell_lt hS0.1)).trans hS0.1 | exact hS0.1.below hb1 (Nat.le_refl _) | exact hS0.1.low hb1 | exact hS0.1.below hb1 | exact hS0.1.trans (Only.of hb1)), (by first | exact hS0.2.1.below hb1 hS0.2.1.lt | exact hS0.2.1.trans (hb1.mono hS0.2.1.size) | exact hS0.2.1.trans (hb1.mono (by have := hS0.2.1.size; omega)) | exact (hb1.cell (cell_lt hS0.2.1)).trans hS0.2.1 | exact hS0.2.1.below hb1 (Nat.le_refl _) | exact hS0.2.1.low hb1 | exact hS0.2.1.below hb1 | exact hS0.2.1.trans (Only.of hb1)), (by first | exact hS0.2.2.below hb1 hS0.2.2.lt | exact hS0.2.2.trans (hb1.mono hS0.2.2.size) | exact hS0.2.2.trans (hb1.mono (by have := hS0.2.2.size; omega)) | exact (hb1.cell (cell_lt hS0.2.2)).trans hS0.2.2 | exact hS0.2.2.below hb1 (Nat.le_refl _) | exact hS0.2.2.low hb1 | exact hS0.2.2.below hb1 | exact hS0.2.2.trans (Only.of hb1))⟩ (fun hS1 => ?_)
    clear hK K
    clear hb1 hS0
    simp only [List.getElem_toArray, List.getElem_cons_zero, List.getElem_cons_succ, Act.put, List.setIfInBounds_toArray, List.set_cons_zero, List.set_cons_succ]
    refine wpAnyH_ready (rs := [3]) (by kernel_rfl) (by simp) ?_
    refine AllReadyH.cons rfl (fun K hK => ?_) AllReadyH.nil
    go_simp
    refine (hrs _).mono ?_
    rintro e v2 ⟨rfl, hb2⟩
    (try go_simp)
    refine hK.out _ _ ⟨(by first | exact hS1.1.below hb2 hS1.1.lt | exact hS1.1.trans (hb2.mono hS1.1.size) | exact hS1.1.trans (hb2.mono (by have := hS1.1.size; omega)) | exact (hb2.cell (cell_lt hS1.1)).trans hS1.1 | exact hS1.1.below hb2 (Nat.le_refl _) | exact hS1.1.low hb2 | exact hS1.1.below hb2 | exact hS1.1.trans (Only.of hb2)), (by first | exact hS1.2.1.below hb2 hS1.2.1.lt | exact hS1.2.1.trans (hb2.mono hS1.2.1.size) | exact hS1.2.1.trans (hb2.mono (by have := hS1.2.1.size; omega)) | exact (hb2.cell (cell_lt hS1.2.1)).trans hS1.2.1 | exact hS1.2.1.below hb2 (Nat.le_refl _) | exact hS1.2.1.low hb2 | exact hS1.2.1.below hb2 | exact hS1.2.1.trans (Only.of hb2)), (by first | exact hS1.2.2.below hb2 hS1.2.2.lt | exact hS1.2.2.trans (hb2.mono hS1.2.2.size) | exact hS1.2.2.trans (hb2.mono (by have := hS1.2.2.size; omega)) | exact (hb2.cell (cell_lt hS1.2.2)).trans hS1.2.2 | exact hS1.2.2.below hb2 (Nat.le_refl _) | exact hS1.2.2.low hb2 | exact hS1.2.2.below hb2 | exact hS1.2.2.trans (Only.of hb2))⟩ (fun hS2 => ?_)
    clear hK K
    clear hb2 hS1
    simp only [List.getElem_toArray, List.getElem_cons_zero, List.getElem_cons_succ, Act.put, List.setIfInBounds_toArray, List.set_cons_zero, List.set_cons_succ]
    refine wpAnyH_ready (rs := [6]) (by kernel_rfl) (by simp) ?_
    refine AllReadyH.cons rfl (fun K hK => ?_) AllReadyH.nil
    go_simp
    refine (hlg _).mono ?_
    rintro e v3 ⟨rfl, hb3⟩
    (try go_simp)
    refine hK.out _ _ ⟨(by first | exact hS2.1.below hb3 hS2.1.lt | exact hS2.1.trans (hb3.mono hS2.1.size) | exact hS2.1.trans (hb3.mono (by have := hS2.1.size; omega)) | exact (hb3.cell (cell_lt hS2.1)).trans hS2.1 | exact hS2.1.below hb3 (Nat.le_refl _) | exact hS2.1.low hb3 | exact hS2.1.below hb3 | exact hS2.1.trans (Only.of hb3)), (by first | exact hS2.2.1.below hb3 hS2.2.1.lt | exact hS2.2.1.trans (hb3.mono hS2.2.1.size) | exact hS2.2.1.trans (hb3.mono (by have := hS2.2.1.size; omega)) | exact (hb3.cell (cell_lt hS2.2.1)).trans hS2.2.1 | exact hS2.2.1.below hb3 (Nat.le_refl _) | exact hS2.2.1.low hb3 | exact hS2.2.1.below hb3 | exact hS2.2.1.trans (Only.of hb3)), (by first | exact hS2.2.2.below hb3 hS2.2.2.lt | exact hS2.2.2.trans (hb3.mono hS2.2.2.size) | exact hS2.2.2.trans (hb3.mono (by have := hS2.2.2.size; omega)) | exact (hb3.cell (cell_lt hS2.2.2)).trans hS2.2.2 | exact hS2.2.2.below hb3 (Nat.le_refl _) | exact hS2.2.2.low hb3 | exact hS2.2.2.below hb3 | exact hS2.2.2.trans (Only.of hb3))⟩ (fun hS3 => ?_)
    clear hK K
    clear hb3 hS2
    simp only [List.getElem_toArray, List.getElem_cons_zero, List.getElem_cons_succ, Act.put, List.setIfInBounds_toArray, List.set_cons_zero, List.set_cons_succ]
    refine wpAnyH_ready (rs := [7]) (by kernel_rfl) (by simp) ?_
    refine AllReadyH.cons rfl (fun K hK => ?_) AllReadyH.nil
    go_simp
    have hb4 : Below v3.heap.size v3 (v3.alloc (.cells #[.string ⟨(thdS z).toArray⟩, .string ⟨(trsS s q z cy).toArray⟩, .string ⟨(tlgS s q).toArray⟩] 9)) := Bl.alloc (Below.refl _ _) _
    refine hK.out _ _ ⟨(by first | exact hS3.1.below hb4 hS3.1.lt | exact hS3.1.trans (hb4.mono hS3.1.size) | exact hS3.1.trans (hb4.mono (by have := hS3.1.size; omega)) | exact (hb4.cell (cell_lt hS3.1)).trans hS3.1 | exact hS3.1.below hb4 (Nat.le_refl _) | exact hS3.1.low hb4 | exact hS3.1.below hb4 | exact hS3.1.trans (Only.of hb4)), (by first | exact hS3.2.1.below hb4 hS3.2.1.lt | exact hS3.2.1.trans (hb4.mono hS3.2.1.size) | exact hS3.2.1.trans (hb4.mono (by have := hS3.2.1.size; omega)) | exact (hb4.cell (cell_lt hS3.2.1)).trans hS3.2.1 | exact hS3.2.1.below hb4 (Nat.le_refl _) | exact hS3.2.1.low hb4 | exact hS3.2.1.below hb4 | exact hS3.2.1.trans (Only.of hb4)), (by first | exact hS3.2.2.below hb4 hS3.2.2.lt | exact hS3.2.2.trans (hb4.mono hS3.2.2.size) | exact hS3.2.2.trans (hb4.mono (by have := hS3.2.2.size; omega)) | exact (hb4.cell (cell_lt hS3.2.2)).trans hS3.2.2 | exact hS3.2.2.below hb4 (Nat.le_refl _) | exact hS3.2.2.low hb4 | exact hS3.2.2.below hb4 | exact hS3.2.2.trans (Only.of hb4))⟩ (fun hS4 => ?_)
    clear hK K
    have hgg_4 : Blk (v3.alloc (.cells #[.string ⟨(thdS z).toArray⟩, .string ⟨(trsS s q z cy).toArray⟩, .string ⟨(tlgS s q).toArray⟩] 9)) v3.heap.size 9 #[.string ⟨(thdS z).toArray⟩, .string ⟨(trsS s q z cy).toArray⟩, .string ⟨(tlgS s q).toArray⟩] := Blk.new _ _ _
    have hlt_hO1_hgg := hS3.1.lt
    have hlt_hF1_hgg := hS3.2.1.lt
    clear hb4 hS3
    generalize v3.alloc (.cells #[.string ⟨(thdS z).toArray⟩, .string ⟨(trsS s q z cy).toArray⟩, .string ⟨(tlgS s q).toArray⟩] 9) = v4 at *
    generalize v3.heap.size = gg at *
    simp only [List.getElem_toArray, List.getElem_cons_zero, List.getElem_cons_succ, Act.put, List.setIfInBounds_toArray, List.set_cons_zero, List.set_cons_succ]
    refine wpAnyH_ready (rs := [8]) (by kernel_rfl) (by simp) ?_
    refine AllReadyH.cons rfl (fun K hK => ?_) AllReadyH.nil
    go_simp
    refine (tj3_calls gg (thdS z) (trsS s q z cy) (tlgS s q) _ hgg_4 (by omega) (by omega) (by omega)).mono ?_
    rintro e v5 ⟨rfl, hb5⟩
    (try go_simp)
    refine hK.out _ _ ⟨(by first | exact hS4.1.below hb5 hS4.1.lt | exact hS4.1.trans (hb5.mono hS4.1.size) | exact hS4.1.trans (hb5.mono (by have := hS4.1.size; omega)) | exact (hb5.cell (cell_lt hS4.1)).trans hS4.1 | exact hS4.1.below hb5 (Nat.le_refl _) | exact hS4.1.low hb5 | exact hS4.1.below hb5 | exact hS4.1.trans (Only.of hb5)), (by first | exact hS4.2.1.below hb5 hS4.2.1.lt | exact hS4.2.1.trans (hb5.mono hS4.2.1.size) | exact hS4.2.1.trans (hb5.mono (by have := hS4.2.1.size; omega)) | exact (hb5.cell (cell_lt hS4.2.1)).trans hS4.2.1 | exact hS4.2.1.below hb5 (Nat.le_refl _) | exact hS4.2.1.low hb5 | exact hS4.2.1.below hb5 | exact hS4.2.1.trans (Only.of hb5)), (by first | exact hS4.2.2.below hb5 hS4.2.2.lt | exact hS4.2.2.trans (hb5.mono hS4.2.2.size) | exact hS4.2.2.trans (hb5.mono (by have := hS4.2.2.size; omega)) | exact (hb5.cell (cell_lt hS4.2.2)).trans hS4.2.2 | exact hS4.2.2.below hb5 (Nat.le_refl _) | exact hS4.2.2.low hb5 | exact hS4.2.2.below hb5 | exact hS4.2.2.trans (Only.of hb5))⟩ (fun hS5 => ?_)
    clear hK K
    have hgg_5 := hgg_4.below hb5 hgg_4.lt
    clear hb5 hS4
    simp only [List.getElem_toArray, List.getElem_cons_zero, List.getElem_cons_succ, Act.put, List.setIfInBounds_toArray, List.set_cons_zero, List.set_cons_succ]
    refine wpAnyH_take (i := 9) (v := ?_) rfl (by kernel_rfl) (by kernel_rfl) (by kernel_rfl) (fun _ _ _ h => h) (Or.inl ⟨by rfl, ?_⟩) hS5 ?_
    rotate_left
    · (intro w hSw; (try dsimp only at hSw); go_simp; try with_reducible rfl)
    simp only [List.getElem_toArray, List.getElem_cons_zero, List.getElem_cons_succ, Act.put, List.setIfInBounds_toArray, List.set_cons_zero, List.set_cons_succ]
    refine wpAnyH_done (by kernel_rfl) ?_ _
    have hO1 := hS5.1
    have hF1 := hS5.2.1
    have hb02 := hS5.2.2
    clear hS5
    have hgg := hgg_5
    go_wp2_with fail
    go_ret
    exact ⟨rfl, hb02⟩
theorem allS_le (s : ByteArray) (q z : Nat) (cy : Int) (hz : z ≤ 7) (hcy : (q = 0 ∨ q = 1 ∨ q = 11) → (nmdS s).2 = false → (z : Int) ≤ cy ∧ cy ≤ 22) : (allS s q z cy).length ≤ 60 := by
  unfold allS
  split
  · decide
  · have l1 := rep_len [79] (z - 1) 6 (by decide) (by omega)
    have l2 := trsS_le s q z cy hcy
    have l3 := tlgS_le s q
    unfold thdS
    simp only [List.length_append, List.length_cons]
    omega
theorem count_calls (b : Nat) (M : Int) (w : World) (hb : b < 256) (hM : w.cell? ⟨0, 0, none⟩ = some (.int .i64 M)) (s : ByteArray) (q z : Nat) (cy : Int) (ho : opV b = #[Value.string s, Value.int .u8 (q : Int), Value.int .i64 (z : Int), Value.int .i64 cy]) (hq : q < 20) (hs : s.size ≤ 4) (hz : 1 ≤ z ∧ z ≤ 7)
    (hcy : (q = 0 ∨ q = 1 ∨ q = 11) → (nmdS s).2 = false → (z : Int) ≤ cy ∧ cy ≤ 22) :
    Calls Tryd.prog 6 #[.int .u8 (b : Int), .agg #[Value.bool true, Value.bool true, Value.bool true, Value.int .i64 0]] w fun e w' => e = .returned (.int .i64 ((allS s q z cy).length : Int)) ∧ Below w.heap.size w w' := by
  have hF0 : Blk (w.alloc (.cells #[Value.bool true, Value.bool true, Value.bool true, Value.int .i64 0] 27)) w.heap.size 27 #[Value.bool true, Value.bool true, Value.bool true, Value.int .i64 0] := Blk.new _ _ _
  have hbF : Below w.heap.size w (w.alloc (.cells #[Value.bool true, Value.bool true, Value.bool true, Value.int .i64 0] 27)) := Bl.alloc (Below.refl _ _) _
  have hM1 := (hbF.cell (p := ⟨0, 0, none⟩) (cell_lt hM)).trans hM
  have hal := all_calls b M _ hb hM1 s q z cy ho hq hs hz hcy
  have hle := allS_le s q z cy hz.2 hcy
  clear hcy ho hM hM1
  generalize allS s q z cy = l at *
  go_enter Tryd.func6, Tryd.ntmps6
  go_wp2_with (refine wpList_load_row rfl 27 _ rfl w.heap.size rfl _ #[Value.bool true, Value.bool true, Value.bool true, Value.int .i64 0] (0, 0) _ hF0 Tryd.underlying27 rfl (by kernel_rfl) ?_)
  refine Cl.m hal ?_
  intro w1 hb1
  go_wp2_with fail
  go_ret
  exact ⟨rfl, hbF.trans (hb1.mono hbF.size)⟩
end Go.Proofs.YtodimiffmmkndaaDoor
