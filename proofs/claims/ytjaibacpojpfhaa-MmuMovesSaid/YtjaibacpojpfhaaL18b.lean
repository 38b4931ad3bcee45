/-
  gannetref18: Phys, Seen; gannetlaw18: MmuMaps.
-/
import Derived.Test.YtjaibacpojpfhaaL18a
namespace Go.Proofs.Ytjaibacpojpfhaa
open Go.RowKit Pl

def RM (w : World) (g : Nat) (A : Nat → Nat) (l : Nat) : Prop := Blk w g 29 (mc A l)
theorem RM.get {w : World} {g : Nat} {A : Nat → Nat} {l : Nat} (h : RM w g A l) (n : Nat) (hn : n < 8) : w.cell? ⟨g, n, none⟩ = some (.int .u8 (A n : Int)) := (Blk.cell h n).trans (mc_get A l n hn)
theorem r18Phys_calls (g l a : Nat) (A : Nat → Nat) (w : World) (ha : a < 65536) (hA : ∀ i, i < 8 → A i < 256) (hM : RM w g A l) :
    Calls Try.prog 16 #[.pointer (some ⟨g, 0, none⟩), .int .u16 (a : Int)] w fun e w' => e = .returned (.int .u32 (adr (A (a / 8192)) a : Nat)) ∧ w = w' := by
  have hq : a / 8192 < 8 := by omega
  have hx := RM.get hM _ hq
  have hA' := hA _ hq
  have e1 : (a : Int) / 8192 = ((a / 8192 : Nat) : Int) := by omega
  have e2 : (a : Int).tdiv 8192 = ((a / 8192 : Nat) : Int) := by rw [Int.tdiv_eq_ediv_of_nonneg (by omega)]; omega
  have er : adr (A (a / 8192)) a = A (a / 8192) * 8192 + a % 8192 := rfl
  generalize A (a / 8192) = B at *
  rw [er]
  clear er
  generalize a / 8192 = q at *
  have hq' : (q : Int) < 8 := by omega
  go_enter Try.func16, Try.ntmps16
  go_wp2_with fail
  go_ret
  exact ⟨ret_int (by omega), rfl⟩
set_option maxHeartbeats 8000000 in
theorem r18Seen_calls (g l a : Nat) (A : Nat → Nat) (w : World) (ha : a < 4294967296) (hA : ∀ i, i < 8 → A i < 256) (hM : RM w g A l) :
    Calls Try.prog 14 #[.pointer (some ⟨g, 0, none⟩), .int .u32 (a : Int)] w fun e w' => ∃ v, e = .returned v ∧ w'.ownsRow w.heap.size 35 1 v (sL A a 8).length ((sL A a 8).map (Value.int .u16)) ∧ Below w.heap.size w w' := by
  obtain ⟨x0, hi, hz0, hz1, hz2⟩ := info_parts (show (Try.prog.info? 35).map (fun i => (i.zero, i.size, i.bytes)) = some (some (.int .u16 0), 1, 2) by kernel_rfl)
  have hbk := bnk_lt a
  have e0 : (a : Int) % 2097152 = ((a % 2097152 : Nat) : Int) := by omega
  have e1 : ((a % 2097152 : Nat) : Int) / 8192 = (bnk a : Int) := by unfold bnk; omega
  have e2 : ((a % 2097152 : Nat) : Int) % 8192 = ((a % 8192 : Nat) : Int) := by omega
  have ha3 : a % 2097152 < 2097152 := Nat.mod_lt _ (by omega)
  have ha4 : a % 8192 < 8192 := Nat.mod_lt _ (by omega)
  have hsl : ∀ j, sL A a (j + 1) = sL A a j ++ (if A j = bnk a then [((j * 8192 + a % 8192 : Nat) : Int)] else []) := fun _ => rfl
  generalize a % 8192 = a8 at *
  generalize a % 2097152 = a21 at *
  go_enter Try.func14, Try.ntmps14
  go_wp2_with fail
  rw [e0]
  go_loopw [5, 6] (fun v i wr => ∃ j : Nat, j ≤ 8 ∧ i = .int .i64 (j : Int) ∧ wr.ownsRow w.heap.size 35 1 v (sL A a j).length ((sL A a j).map (Value.int .u16)) ∧ Below w.heap.size w wr) (fun _ i _ => 8 - (intOf i).toNat)
  case atStart => exact ⟨0, by omega, rfl, World.ownsRow_nil _ _ _ _, Below.refl _ _⟩
  case round =>
    obtain ⟨j, hj, rfl, hown, hbel⟩ := hrel
    by_cases hjn : j < 8
    · have hjn' : (j : Int) < 8 := by omega
      have hx := RM.get (Blk.below hM hbel hM.lt) j hjn
      have hln := sL_len A a j
      have hlsucc := hsl j
      have hAj := hA j hjn
      by_cases he : A j = bnk a
      · rw [if_pos he] at hlsucc
        have hc : ((A j : Int) == (bnk a : Int)) = true := by rw [beq_iff_eq]; omega
        have hbz := hbel.size
        have ho : (j : Int) * 8192 + (a8 : Int) = ((j * 8192 + a8 : Nat) : Int) := by omega
        have hq65 : j * 8192 + a8 < 65536 := by omega
        generalize j * 8192 + a8 = q at *
        clear hsl
        have Hs := hide hlsucc
        clear hlsucc he
        go_wp2_with (at_builtin; refine wpList_append_own _ rfl _ _ 37 rfl w.heap.size 35 x0 (.int .u16 0) 1 2 Try.underlying37 hi hz0 hz1 hz2 rfl (by decide) _ _ _ rfl (hown.alloc _) _ 1 1 [.int .u16 (q : Int)] rfl rfl ?c1 ?c2 ?c3 ?c4 ?c5 ?_)
        case c1 => exact one_new_at _ _ _ _ rfl
        case c2 => exact one_int _ _
        case c3 => unfold maxLen; omega
        case c4 => omega
        case c5 => simp; omega
        intro v1 w2 hown1 hgrow1 _
        have hb2 := (Bl.alloc hbel _).grown hgrow1 (by simp; omega) (fun k hk => by have := (hown.lt k hk).1; omega)
        go_wp2_with fail
        go_roundw
        case rel => exact ⟨j + 1, by omega, by go_num, by rw [Hs.out, List.length_append, List.map_append]; exact hown1, hb2⟩
        case measure => simp [intOf]; omega
      · rw [if_neg he, List.append_nil] at hlsucc
        have hc : ((A j : Int) == (bnk a : Int)) = false := by rw [beq_eq_false_iff_ne]; omega
        have Hs := hide hlsucc
        clear hlsucc he hsl
        go_wp2_with fail
        go_roundw
        case rel => exact ⟨j + 1, by omega, by go_num, by rw [Hs.out]; exact hown, hbel⟩
        case measure => simp [intOf]; omega
    · obtain rfl : j = 8 := by omega
      go_wp2_with fail
      go_ret
      exact ⟨_, rfl, hown, hbel⟩
theorem sL_mem (A : Nat → Nat) (a : Nat) : ∀ (j i : Nat), i < (sL A a j).length → ∃ q, q < j ∧ A q = bnk a ∧ (sL A a j).getD i 0 = ((q * 8192 + a % 8192 : Nat) : Int)
  | 0, i, h => by simp [sL] at h
  | j + 1, i, h => by
    unfold sL at h ⊢
    by_cases he : A j = bnk a
    · rw [if_pos he] at h ⊢
      rw [List.length_append] at h
      by_cases hi : i < (sL A a j).length
      · obtain ⟨q, h1, h2, h3⟩ := sL_mem A a j i hi
        refine ⟨q, by omega, h2, ?_⟩
        rw [← h3]
        simp [List.getD, List.getElem?_append_left hi]
      · refine ⟨j, by omega, he, ?_⟩
        have : i = (sL A a j).length := by simp at h; omega
        subst this
        simp [List.getD]
    · rw [if_neg he, List.append_nil] at h ⊢
      obtain ⟨q, h1, h2, h3⟩ := sL_mem A a j i h
      exact ⟨q, by omega, h2, h3⟩
set_option maxRecDepth 100000 in
set_option maxHeartbeats 8000000 in
theorem mmuMaps_calls (a p : Nat) (A : Nat → Nat) (w : World) (ha : a < 65536) (hp : p < 4294967296) (hA : ∀ i, i < 8 → A i < 256) :
    Calls Try.prog 4 #[.agg (bk8 A), .int .u16 (a : Int), .int .u32 (p : Int)] w fun e w' => e = .returned (.bool true) ∧ Below w.heap.size w w' := by
  have hO : ∀ W, Calls Try.prog 8 #[.agg (bk8 A), .int .u8 0] W fun e w' => ∃ g, e = .returned (.pointer (some ⟨g, 0, none⟩)) ∧ MB w' g A 0 ∧ W.heap.size ≤ g ∧ Below W.heap.size W w' := fun W => mmOf_calls 0 A W
  have hX0 : Blk (w.alloc (.cells (bk8 A) 22)) w.heap.size 22 (bk8 A) := Blk.new _ _ _
  have hbA : Below w.heap.size w (w.alloc (.cells (bk8 A) 22)) := Bl.alloc (Below.refl _ _) _
  go_enter Try.func4, Try.ntmps4
  (go_wp2_with fail; refine Cl.m (live18_calls _) ?_; intro w1 hb1)
  have hX1 := hX0.below hb1 hX0.lt
  have hb01 : Below w.heap.size w w1 := hbA.trans (hb1.mono hbA.size)
  go_wp2_with (refine wpList_load_row rfl 22 _ rfl w.heap.size rfl _ (bk8 A) (0, 0) _ hX1 Try.underlying22 rfl (by kernel_rfl) ?_)
  refine (hO _).mono ?_
  rintro e w2 ⟨g, rfl, hM2, hg, hb2⟩
  have hX2 := hX1.below hb2 hX1.lt
  have hb02 : Below w.heap.size w w2 := hb01.trans (hb2.mono hb01.size)
  have hxx := fun n (h : n < 8) => (hX2.cell n).trans (bk8_get A n h)
  have x0 := hxx 0 (by omega)
  have x1 := hxx 1 (by omega)
  have x2 := hxx 2 (by omega)
  have x3 := hxx 3 (by omega)
  have x4 := hxx 4 (by omega)
  have x5 := hxx 5 (by omega)
  have x6 := hxx 6 (by omega)
  have x7 := hxx 7 (by omega)
  clear hxx
  go_wp2_with fail
  have hR3 : RM (w2.alloc (.cells #[.int .u8 (A 0 : Int), .int .u8 (A 1 : Int), .int .u8 (A 2 : Int), .int .u8 (A 3 : Int), .int .u8 (A 4 : Int), .int .u8 (A 5 : Int), .int .u8 (A 6 : Int), .int .u8 (A 7 : Int), .int .u8 0] 29)) w2.heap.size A 0 := Blk.new _ _ _
  have hM3 : MB (w2.alloc (.cells #[.int .u8 (A 0 : Int), .int .u8 (A 1 : Int), .int .u8 (A 2 : Int), .int .u8 (A 3 : Int), .int .u8 (A 4 : Int), .int .u8 (A 5 : Int), .int .u8 (A 6 : Int), .int .u8 (A 7 : Int), .int .u8 0] 29)) g A 0 := Blk.alloc hM2 _
  have hb03 : Below w.heap.size w (w2.alloc (.cells #[.int .u8 (A 0 : Int), .int .u8 (A 1 : Int), .int .u8 (A 2 : Int), .int .u8 (A 3 : Int), .int .u8 (A 4 : Int), .int .u8 (A 5 : Int), .int .u8 (A 6 : Int), .int .u8 (A 7 : Int), .int .u8 0] 29)) := Bl.alloc hb02 _
  generalize hh : w2.heap.size = h at *
  generalize w2.alloc (.cells #[.int .u8 (A 0 : Int), .int .u8 (A 1 : Int), .int .u8 (A 2 : Int), .int .u8 (A 3 : Int), .int .u8 (A 4 : Int), .int .u8 (A 5 : Int), .int .u8 (A 6 : Int), .int .u8 (A 7 : Int), .int .u8 0] 29) = w3 at *
  clear x0 x1 x2 x3 x4 x5 x6 x7 hX0 hX1 hX2 hbA hb1 hb2 hb01 hb02 hO
  refine (mmSeen_calls (.pointer (some ⟨g, 0, none⟩)) p A _ hp (fun W hW => mmBanks_calls g 0 A W (Blk.below hM3 hW hM3.lt))).mono ?_
  rintro e w4 ⟨v4, rfl, hown4, hb4⟩
  obtain ⟨o4, c4, rfl, hN4⟩ := nums_of_own hown4
  have hM4 : MB w4 g A 0 := Blk.below hM3 hb4 hM3.lt
  have hR4 : RM w4 h A 0 := Blk.below hR3 hb4 hR3.lt
  have hb04 : Below w.heap.size w w4 := hb03.trans (hb4.mono hb03.size)
  clear hown4
  go_wp2_with fail
  refine (r18Seen_calls h 0 p A _ hp hA hR4).mono ?_
  rintro e w5 ⟨v5, rfl, hown5, hb5⟩
  obtain ⟨o5, c5, rfl, hN5⟩ := nums_of_own hown5
  have hM5 : MB w5 g A 0 := Blk.below hM4 hb5 hM4.lt
  have hR5 : RM w5 h A 0 := Blk.below hR4 hb5 hR4.lt
  have hN4' := hN4.below hb5 (Nat.le_refl _)
  have hb05 : Below w.heap.size w w5 := hb04.trans (hb5.mono hb04.size)
  have hmem := sL_mem A p 8
  have hl8 := sL_len A p 8
  generalize (sL A p 8).length = n at *
  generalize sL A p 8 = L at *
  clear hown5 hM3 hR3 hM4 hR4 hb03 hb04 hb4 hb5 hN4
  go_wp2_with fail
  refine Cl.m (mmPhys_calls g 0 a A _ ha hA hM5) ?_
  intro w6 hb6
  have hM6 : MB w6 g A 0 := Blk.below hM5 hb6 hM5.lt
  have hR6 : RM w6 h A 0 := Blk.below hR5 hb6 hR5.lt
  have hN46 := hN4'.below hb6 (Nat.le_refl _)
  have hN56 := hN5.below hb6 (Nat.le_refl _)
  have hb06 : Below w.heap.size w w6 := hb05.trans (hb6.mono hb05.size)
  clear hM5 hR5 hN4' hN5 hb05 hb6
  go_wp2_with fail
  refine Cl.p (r18Phys_calls h 0 a A _ ha hA hR6) ?_
  have zz : ∀ q : Nat, ((q : Int) != (q : Int)) = false := fun q => bne_self_eq_false _
  have z1 := zz (adr (A (a / 8192)) a)
  have z2 := zz n
  generalize adr (A (a / 8192)) a = pa at *
  go_wp2_with fail
  go_loopw [11] (fun i wr => ∃ j : Nat, j ≤ n ∧ i = .int .i64 (j : Int) ∧ Below w6.heap.size w6 wr) (fun i _ => n - (intOf i).toNat)
  case atStart => exact ⟨0, by omega, rfl, Below.refl _ _⟩
  case round =>
    obtain ⟨j, hj, rfl, hbr⟩ := hrel
    by_cases hjn : j < n
    · have hjn' : (j : Int) < (n : Int) := by omega
      obtain ⟨q, hq8, hqA, hqL⟩ := hmem j hjn
      have hMr0 : MB wr g A 0 := Blk.below hM6 hbr hM6.lt
      have hMr : MB wr.drew g A 0 := hMr0
      obtain ⟨b4, of4, rfl, hlt4, hc4⟩ := (hN46.below hbr (Nat.le_refl _)) j hjn
      obtain ⟨b5, of5, rfl, hlt5, hc5⟩ := (hN56.below hbr (Nat.le_refl _)) j hjn
      dsimp only at hc4 hc5
      rw [hqL] at hc4 hc5
      have hp8 : p % 8192 < 8192 := Nat.mod_lt _ (by omega)
      have hv : q * 8192 + p % 8192 < 65536 := by omega
      have hPh := mmPhys_calls g 0 (q * 8192 + p % 8192) A wr.drew hv hA hMr
      have e1 : (q * 8192 + p % 8192) / 8192 = q := by omega
      have e2 : adr (bnk p) (q * 8192 + p % 8192) = p % 2097152 := by unfold adr bnk; omega
      rw [e1, hqA, e2] at hPh
      have e3 : (p : Int) % 2097152 = ((p % 2097152 : Nat) : Int) := by omega
      have e4 : (p : Int).tmod 2097152 = ((p % 2097152 : Nat) : Int) := by rw [Int.tmod_eq_emod_of_nonneg (by omega)]; omega
      generalize p % 2097152 = p21 at *
      generalize q * 8192 + p % 8192 = v at *
      have hc4d : wr.drew.cell? ⟨b4, of4 + j, none⟩ = some (.int .u16 (v : Int)) := hc4
      have hc5d : wr.drew.cell? ⟨b5, of5 + j, none⟩ = some (.int .u16 (v : Int)) := hc5
      have zv : ((v : Int) != (v : Int)) = false := bne_self_eq_false _
      have zp : ((p21 : Int) != (p21 : Int)) = false := bne_self_eq_false _
      clear e1 e2 hqL hqA hmem hN46 hN56
      go_wp2_with fail
      go_region_held3 (fun w' => w'.cell? ⟨b4, of4 + j, none⟩ = some (.int .u16 (v : Int)) ∧ w'.cell? ⟨b5, of5 + j, none⟩ = some (.int .u16 (v : Int))) (first | exact ⟨r4, r5⟩ | exact ⟨hc4d, hc5d⟩)
        (first | (go_at_call 15; refine Cl.m hPh ?_; intro w7 hb7; have r4 : w7.cell? ⟨b4, of4 + j, none⟩ = some (.int .u16 (v : Int)) := (hb7.cell (p := ⟨b4, of4 + j, none⟩) hlt4).trans hc4d; have r5 : w7.cell? ⟨b5, of5 + j, none⟩ = some (.int .u16 (v : Int)) := (hb7.cell (p := ⟨b5, of5 + j, none⟩) hlt5).trans hc5d))
      all_goals
        go_wp2_with fail
        go_roundw
        case rel => exact ⟨j + 1, by omega, by go_num, (Below.drew hbr).trans (hb7.mono (by have := hbr.size; exact this))⟩
        case measure => simp [intOf]; omega
    · obtain rfl : j = n := by omega
      go_wp2_with fail
      go_ret
      exact ⟨rfl, hb06.trans (hbr.mono hb06.size)⟩
section
open Go.ChangeShapes Go.WideShapes Go.ChangeAt
variable {H : Type} {enc : TypeId × Value → H} {W : World} {base : Nat}
theorem walk_MmuMaps {v0 v1 v2 : Value} {d0 d1 d2 : DataW H} {p0 p1 p2 : List MemPlace}
    (_hsh : W.ShapedOpen Try.prog) (_hsz : (DataW.weightsEach Try.prog [22, 35, 36] [d0, d1, d2]).all (· ≤ reachBytes) = true)
    (hv0 : Value.okWide Try.prog W .any base 22 v0) (hd0 : DataW.Trod enc Try.prog W 0 (fun _ => true) true 22 v0 d0 p0) (hv1 : Value.okWide Try.prog W .any base 35 v1) (hd1 : DataW.Trod enc Try.prog W 0 (fun _ => true) true 35 v1 d1 p1) (hv2 : Value.okWide Try.prog W .any base 36 v2) (hd2 : DataW.Trod enc Try.prog W 0 (fun _ => true) true 36 v2 d2 p2) :
    Calls Try.prog 4 #[v0, v1, v2] W fun e W' => e = .returned (.bool true) ∧ Below W.heap.size W W' := by
  obtain ⟨l0, rfl, hl0⟩ := open_arr Try.underlying22 Try.underlying5 (by kernel_rfl) (by kernel_rfl) hv0 hd0
  obtain ⟨x1, rfl, h1⟩ := open_u16 Try.underlying35 hv1 hd1
  obtain ⟨x2, rfl, h2⟩ := open_u32 Try.underlying36 hv2 hd2
  have e8 : arr 8 (fun i => Value.int .u8 (l0 i)) = bk8 (fun i => (l0 i).toNat) := by
    show _ = arr 8 (fun i => Value.int .u8 (((l0 i).toNat : Nat) : Int))
    refine arr_congr fun i hi => ?_
    have := bounds_u8 (hl0 i hi)
    rw [Int.toNat_of_nonneg (by omega)]
  rw [e8]
  exact mmuMaps_calls x1 x2 _ W h1 h2 (fun i hi => by
    have := bounds_u8 (hl0 i hi)
    show (l0 i).toNat < 256
    omega)
end
end Go.Proofs.Ytjaibacpojpfhaa
