/-
  Package micro: Text, Size.
-/
import Derived.Test.YtodimiffmmkndaaDoorMr4
import Derived.Deep.MidRow
namespace Go.Proofs.YtodimiffmmkndaaDoor
set_option linter.unusedSimpArgs false
set_option linter.unusedVariables false
set_option maxRecDepth 10000
open Go.RowKit Go.Shelf Pl
def OpsAt (w : World) (g : Nat) (L : List OpM) : Prop := ∀ i x, L[i]? = some x → w.rangeAt g (i * 4) [Value.int .u8 (x.1.toNat : Int), Value.int .u8 (x.2.1.toNat : Int), Value.int .u8 (x.2.2.1.toNat : Int), Value.bool x.2.2.2]
theorem flO_get (L : List OpM) (i j : Nat) (x : OpM) (h : L[i]? = some x) (hj : j < 4) : (flO L)[i * 4 + j]? = [Value.int .u8 (x.1.toNat : Int), Value.int .u8 (x.2.1.toNat : Int), Value.int .u8 (x.2.2.1.toNat : Int), Value.bool x.2.2.2][j]? := by
  induction L generalizing i with
  | nil => simp at h
  | cons y L ih =>
    cases i with
    | zero =>
      obtain rfl : y = x := by simpa using h
      show ((va y).toList ++ flO L)[0 * 4 + j]? = _
      rw [Nat.zero_mul, Nat.zero_add, List.getElem?_append_left (show j < 4 from hj)]
      rfl
    | succ i =>
      have := ih i (by simpa using h)
      show ((va y).toList ++ flO L)[(i + 1) * 4 + j]? = _
      rw [List.getElem?_append_right (by show 4 ≤ _; omega), show (i + 1) * 4 + j - (va y).toList.length = i * 4 + j by show (i + 1) * 4 + j - 4 = _; omega]
      exact this
theorem own4_ops {w : World} {base : Nat} {v : Value} (L : List OpM) (h : w.ownsRow base 39 4 v L.length (flO L)) (hL : 0 < L.length) :
    ∃ g cap, v = .slice (some ⟨g, 0, none⟩) L.length cap ∧ base ≤ g ∧ g < w.heap.size ∧ OpsAt w g L := by
  rcases h.2 with ⟨_, h0⟩ | ⟨g, cap, cur, rfl, hb, hh, hc, _, _, ht⟩
  · omega
  · refine ⟨g, cap, rfl, hb, Blk.lt hh, fun i x hx j u hu => ?_⟩
    have hj : j < 4 := (List.getElem?_eq_some_iff.1 hu).1
    have hi : i < L.length := (List.getElem?_eq_some_iff.1 hx).1
    rw [cell_of_row w g (i * 4 + j) cur 39 (0, 0) hh]
    have h1 := flO_get L i j x hx hj
    rw [← ht, List.getElem?_take, if_pos (by omega), hu] at h1
    simpa using h1
theorem OpsAt.low {w w' : World} {g : Nat} {L : List OpM} (h : OpsAt w g L) (hb : Below w.heap.size w w') : OpsAt w' g L := fun i x hx j u hu => (hb.cell (cell_lt (h i x hx j u hu))).trans (h i x hx j u hu)
set_option maxHeartbeats 4000000 in
theorem textO_calls (L : List OpM) (g cap : Nat) (w : World) (hL : L.length ≤ 30) (hok : ∀ x ∈ L, okS x = true) (hA : OpsAt w g L) :
    Calls Tryd.prog 10 #[.slice (some ⟨g, 0, none⟩) L.length cap] w fun e w' => e = .returned (.string ⟨(TX L).toArray⟩) ∧ Below w.heap.size w w' := by
  obtain ⟨i0, hi, hz0, hz1, hz2⟩ := info_parts infoStr
  obtain ⟨n, hn⟩ : ∃ n, L.length = n := ⟨_, rfl⟩
  rw [hn] at hL ⊢
  go_enter Tryd.func10, Tryd.ntmps10
  go_wp2_with fail
  go_loopw [3, 8] (fun v3 v8 wr => ∃ k : Nat, k ≤ n ∧ v8 = .int .i64 (k : Int) ∧ wr.ownsRow w.heap.size 9 1 v3 k (((L.take k).map tx).map vS) ∧ Below w.heap.size w wr) (fun _ v8 _ => n - (intOf v8).toNat)
  case atStart => exact ⟨0, by omega, rfl, World.ownsRow_nil _ _ _ _, Below.refl _ _⟩
  case round =>
    obtain ⟨k, hk, rfl, hown, hb⟩ := hrel
    rcases Nat.lt_or_ge k n with hlt | hge
    · obtain ⟨x, hxk⟩ : ∃ x, L[k]? = some x := ⟨L[k], List.getElem?_eq_getElem (by omega)⟩
      have hr := (hA.low hb) k x hxk
      have hx := hok x (List.mem_of_getElem? hxk)
      have hxO : okO x.1 x.2.1 x.2.2.1 = true := by
        unfold okS at hx
        exact (Bool.and_eq_true_iff.1 hx).1
      have htx := fun W => txO_calls x.1 x.2.1 x.2.2.1 x.2.2.2 W hxO
      have hE : Hid (((L.take k).map tx).map vS ++ [.string ⟨(txO x.1 x.2.1 x.2.2.1 x.2.2.2).toArray⟩] = ((L.take (k + 1)).map tx).map vS) := by
        show _ = _
        rw [List.take_add_one, hxk]
        simp [tx, vS]
      have hX : Blk (wr.alloc (.cells #[Value.int .u8 (x.1.toNat : Int), Value.int .u8 (x.2.1.toNat : Int), Value.int .u8 (x.2.2.1.toNat : Int), Value.bool x.2.2.2] 39)) wr.heap.size 39 #[Value.int .u8 (x.1.toNat : Int), Value.int .u8 (x.2.1.toNat : Int), Value.int .u8 (x.2.2.1.toNat : Int), Value.bool x.2.2.2] := Blk.new _ _ _
      have hown1 := World.ownsRow.alloc hown (.cells #[Value.int .u8 (x.1.toNat : Int), Value.int .u8 (x.2.1.toNat : Int), Value.int .u8 (x.2.2.1.toNat : Int), Value.bool x.2.2.2] 39)
      have hb1 : Below w.heap.size w (wr.alloc (.cells #[Value.int .u8 (x.1.toNat : Int), Value.int .u8 (x.2.1.toNat : Int), Value.int .u8 (x.2.2.1.toNat : Int), Value.bool x.2.2.2] 39)) := Bl.alloc hb _
      have k1 : (k : Int) < (n : Int) := by omega
      clear hown hx hxO
      go_wp2_with (first | (refine wpList_load_mid rfl 39 _ rfl g (k * 4) rfl [Value.int .u8 (x.1.toNat : Int), Value.int .u8 (x.2.1.toNat : Int), Value.int .u8 (x.2.2.1.toNat : Int), Value.bool x.2.2.2] _ hr Tryd.underlying39 rfl (by kernel_rfl) ?_) | (refine wpList_load_row rfl 39 _ rfl wr.heap.size rfl _ #[Value.int .u8 (x.1.toNat : Int), Value.int .u8 (x.2.1.toNat : Int), Value.int .u8 (x.2.2.1.toNat : Int), Value.bool x.2.2.2] (0, 0) _ hX Tryd.underlying39 rfl (by kernel_rfl) ?_))
      refine Cl.m (htx _) ?_
      intro w2 hb2
      have hown2 := own1_keep hown1 fun g hg => hb2.block g (own1_lt hown1 hg)
      have hb02 := hb1.trans (hb2.mono hb1.size)
      have hbase := hb02.size
      clear hown1 hX hb2 hr htx hb1
      generalize txO x.1 x.2.1 x.2.2.1 x.2.2.2 = T at *
      go_wp2_with (at_builtin; refine wpList_append_one rfl _ _ 53 rfl w.heap.size 9 i0 _ 16 Tryd.underlying53 hi hz0 hz1 hz2 rfl _ _ _ rfl hown2 (.string ⟨T.toArray⟩) rfl rfl (by unfold maxLen; omega) (by omega) hbase ?_; intro gg gcap w3 hown3 hkp)
      rw [hE.out] at hown3
      have hb3 := hb02.trans hkp.1
      clear hown2 hkp hE
      go_roundw
      case rel => exact ⟨k + 1, by omega, by go_num, hown3, hb3⟩
      case measure => simp [intOf]; omega
    · obtain rfl : k = n := by omega
      have k2 : (decide ((k : Int) < (k : Int))) = false := decide_eq_false (by omega)
      rw [List.take_of_length_le (by omega)] at hown
      have hml : (L.map tx).length = k := by rw [List.length_map, hn]
      have hj := join_list (L.map tx) [32] (w := wr) (base := w.heap.size) (v := u3) (by rw [hml]; exact hown) (by omega) (by
        have := TX_len L
        unfold TX at this
        omega)
      clear hown
      go_wp2_with fail
      refine Cl.m hj ?_
      intro w1 hb1
      go_wp2_with fail
      go_ret
      exact ⟨rfl, hb.trans (hb1.mono hb.size)⟩
/-- How many ops a program has, its loop's left out. -/
def szM (L : List OpM) : Nat := (L.filter fun x => x.2.2.1 != 78).length
theorem szM_snoc (L : List OpM) (k : Nat) (x : OpM) (h : L[k]? = some x) : szM (L.take (k + 1)) = szM (L.take k) + (if (x.2.2.1 != 78) = true then 1 else 0) := by
  unfold szM
  rw [List.take_add_one, h, List.filter_append, List.length_append]
  show _ + ([x].filter fun x => x.2.2.1 != 78).length = _
  rw [List.filter_cons]
  split <;> rfl
theorem szM_le (L : List OpM) : szM L ≤ L.length := List.length_filter_le _ _
set_option maxHeartbeats 4000000 in
theorem size_calls (L : List OpM) (g cap : Nat) (w : World) (hL : L.length ≤ 30) (hA : OpsAt w g L) :
    Calls Tryd.prog 7 #[.slice (some ⟨g, 0, none⟩) L.length cap] w fun e w' => e = .returned (.int .i64 (szM L : Int)) ∧ Below w.heap.size w w' := by
  obtain ⟨n, hn⟩ : ∃ n, L.length = n := ⟨_, rfl⟩
  rw [hn] at hL ⊢
  go_enter Tryd.func7, Tryd.ntmps7
  go_wp2_with fail
  go_loopw [3, 8] (fun v3 v8 wr => ∃ k : Nat, k ≤ n ∧ v8 = .int .i64 (k : Int) ∧ v3 = .int .i64 (szM (L.take k) : Int) ∧ Below w.heap.size w wr) (fun _ v8 _ => n - (intOf v8).toNat)
  case atStart => exact ⟨0, by omega, rfl, rfl, Below.refl _ _⟩
  case round =>
    obtain ⟨k, hk, rfl, rfl, hb⟩ := hrel
    rcases Nat.lt_or_ge k n with hlt | hge
    · obtain ⟨x, hxk⟩ : ∃ x, L[k]? = some x := ⟨L[k], List.getElem?_eq_getElem (by omega)⟩
      have hr := (hA.low hb) k x hxk
      have hE := szM_snoc L k x hxk
      have hX : Blk (wr.alloc (.cells #[Value.int .u8 (x.1.toNat : Int), Value.int .u8 (x.2.1.toNat : Int), Value.int .u8 (x.2.2.1.toNat : Int), Value.bool x.2.2.2] 39)) wr.heap.size 39 #[Value.int .u8 (x.1.toNat : Int), Value.int .u8 (x.2.1.toNat : Int), Value.int .u8 (x.2.2.1.toNat : Int), Value.bool x.2.2.2] := Blk.new _ _ _
      have hb1 : Below w.heap.size w (wr.alloc (.cells #[Value.int .u8 (x.1.toNat : Int), Value.int .u8 (x.2.1.toNat : Int), Value.int .u8 (x.2.2.1.toNat : Int), Value.bool x.2.2.2] 39)) := Bl.alloc hb _
      have k1 : (k : Int) < (n : Int) := by omega
      have hle : szM (L.take k) ≤ 30 := Nat.le_trans (szM_le _) (by rw [List.length_take]; omega)
      by_cases h78 : x.2.2.1 = 78
      · have hc : ((x.2.2.1.toNat : Int) != 78) = false := by rw [h78]; rfl
        have hc2 : ((x.2.2.1.toNat : Int) == 78) = true := by rw [h78]; rfl
        rw [if_neg (by rw [h78]; decide)] at hE
        have HE := hide hE
        clear hE h78
        obtain ⟨o, ho⟩ : ∃ o, szM (L.take k) = o := ⟨_, rfl⟩
        rw [ho] at HE ⊢
        have HH := hide ho
        clear ho
        have hle : o ≤ 30 := by rw [← HH.out]; exact hle
        generalize hq : ((x.2.2.1.toNat : Nat) : Int) = q at *
        clear hq
        go_wp2_with (first | (refine wpList_load_mid rfl 39 _ rfl g (k * 4) rfl [Value.int .u8 (x.1.toNat : Int), Value.int .u8 (x.2.1.toNat : Int), Value.int .u8 q, Value.bool x.2.2.2] _ hr Tryd.underlying39 rfl (by kernel_rfl) ?_))
        refine ⟨⟨k + 1, by omega, by go_num, by rw [HE.out, Nat.add_zero], hb1⟩, ?_⟩
        simp [intOf]
        omega
      · have hc2 : ((x.2.2.1.toNat : Int) == 78) = false := u8_ne h78
        have hc : ((x.2.2.1.toNat : Int) != 78) = true := by rw [bne, hc2]; rfl
        rw [if_pos (by rw [bne_iff_ne]; exact h78)] at hE
        have HE := hide hE
        clear hE h78
        obtain ⟨o, ho⟩ : ∃ o, szM (L.take k) = o := ⟨_, rfl⟩
        rw [ho] at HE ⊢
        have HH := hide ho
        clear ho
        have hle : o ≤ 30 := by rw [← HH.out]; exact hle
        generalize hq : ((x.2.2.1.toNat : Nat) : Int) = q at *
        clear hq
        go_wp2_with (first | (refine wpList_load_mid rfl 39 _ rfl g (k * 4) rfl [Value.int .u8 (x.1.toNat : Int), Value.int .u8 (x.2.1.toNat : Int), Value.int .u8 q, Value.bool x.2.2.2] _ hr Tryd.underlying39 rfl (by kernel_rfl) ?_))
        refine ⟨⟨k + 1, by omega, by go_num, by rw [HE.out, Int.natCast_add] <;> rfl, hb1⟩, ?_⟩
        simp [intOf]
        omega
    · obtain rfl : k = n := by omega
      have k2 : (decide ((k : Int) < (k : Int))) = false := decide_eq_false (by omega)
      rw [List.take_of_length_le (by omega)]
      go_wp2_with fail
      go_ret
      exact ⟨rfl, hb⟩
end Go.Proofs.YtodimiffmmkndaaDoor
