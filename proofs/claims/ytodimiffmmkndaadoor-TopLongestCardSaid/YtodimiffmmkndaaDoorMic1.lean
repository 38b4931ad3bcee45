/-
  Package micro: join, times.
-/
import Derived.Test.YtodimiffmmkndaaDoorOpc5
import Derived.Test.YtodimiffmmkndaaDoorApp1
namespace Go.Proofs.YtodimiffmmkndaaDoor
set_option linter.unusedSimpArgs false
set_option linter.unusedVariables false
set_option maxRecDepth 10000
open Go.RowKit Go.Shelf Pl
def vS (x : List UInt8) : Value := .string ⟨x.toArray⟩
theorem infoStr : (Tryd.prog.info? 9).map (fun i => (i.zero, i.size, i.bytes)) = some (some (.string ByteArray.empty), 1, 16) := by kernel_rfl
theorem own1_row {w : World} {base n : Nat} {e : TypeId} {v : Value} {xs : List Value} (h : w.ownsRow base e 1 v n xs) (hn : 0 < n) :
    ∃ (g cap : Nat) (cur : Array Value), v = .slice (some ⟨g, 0, none⟩) n cap ∧ base ≤ g ∧ Blk w g e cur ∧ n ≤ cap ∧ ∀ (j : Nat) (u : Value), xs[j]? = some u → cur[j]? = some u := by
  rcases h.2 with ⟨_, h0⟩ | ⟨g, cap, cur, rfl, hb, hh, hc, _, _, ht⟩
  · omega
  · refine ⟨g, cap, cur, rfl, hb, hh, hc, fun j u hj => ?_⟩
    have hl : j < xs.length := (List.getElem?_eq_some_iff.1 hj).1
    rw [← ht, List.getElem?_take] at hj
    rw [h.1] at hl
    rw [if_pos (by omega)] at hj
    simpa using hj
/-- Texts that the call owns, joined. -/
theorem join_list {w : World} {base : Nat} {v : Value} (L : List (List UInt8)) (sep : List UInt8) (hown : w.ownsRow base 9 1 v L.length (L.map vS)) (hL : L.length ≤ 1000) (hlen : (Lib.join L sep).length ≤ 1000000) :
    Calls Tryd.prog 21 #[v, .string ⟨sep.toArray⟩] w fun e w' => e = .returned (.string ⟨(Lib.join L sep).toArray⟩) ∧ Below w.heap.size w w' := by
  rcases Nat.eq_zero_or_pos L.length with h0 | h0
  · obtain rfl : L = [] := List.eq_nil_of_length_eq_zero h0
    rcases hown.2 with ⟨rfl, _⟩ | ⟨g, cap, cur, rfl, _⟩
    · refine (Tryd.strings_Join_none none 0 ⟨sep.toArray⟩ w).mono ?_
      rintro e w' ⟨rfl, rfl⟩
      exact ⟨rfl, Below.refl _ _⟩
    · refine (Tryd.strings_Join_none _ cap ⟨sep.toArray⟩ w).mono ?_
      rintro e w' ⟨rfl, rfl⟩
      exact ⟨rfl, Below.refl _ _⟩
  · obtain ⟨g, cap, cur, rfl, hb, hB, hc, hcs⟩ := own1_row hown h0
    have hm : (L.map fun x => (⟨x.toArray⟩ : ByteArray)).map (fun b : ByteArray => b.data.toList) = L := by
      rw [List.map_map]
      exact List.map_id' L
    have hl : (L.map fun x => (⟨x.toArray⟩ : ByteArray)).length = L.length := by simp
    have h := Tryd.strings_Join g 0 cap (L.map fun x => (⟨x.toArray⟩ : ByteArray)) ⟨sep.toArray⟩ w (fun j x hj => by
      obtain ⟨y, hy, rfl⟩ : ∃ y, L[j]? = some y ∧ (⟨y.toArray⟩ : ByteArray) = x := by simpa using hj
      rw [Nat.zero_add, hB.cell]
      exact hcs j _ (by rw [List.getElem?_map, hy]; rfl)) hB.lt (by rw [hl]; omega) (by rw [hl]; exact hc) (by rw [hm]; exact Nat.le_trans hlen (by omega))
    rw [hl, hm] at h
    exact h
theorem join_len (L : List (List UInt8)) (k : Nat) (h : ∀ x ∈ L, x.length ≤ k) : (Lib.join L [32]).length ≤ (k + 1) * L.length := by
  cases L with
  | nil => exact Nat.zero_le _
  | cons x r =>
    rw [Lib.join_cons, List.length_append, Lib.joinTail_length]
    have hr : ∀ r : List (List UInt8), (∀ x ∈ r, x.length ≤ k) → Lib.lens r ≤ k * r.length := by
      intro r
      induction r with
      | nil => intro _; exact Nat.zero_le _
      | cons y r ih =>
        intro hy
        have h1 := ih fun x hx => hy x (List.mem_cons_of_mem _ hx)
        have h2 := hy y (List.mem_cons_self ..)
        simp only [Lib.lens, List.map_cons, List.sum_cons, List.length_cons] at h1 ⊢
        rw [Nat.mul_succ]
        omega
    have h1 := hr r fun y hy => h y (List.mem_cons_of_mem _ hy)
    have h2 := h x (List.mem_cons_self ..)
    simp only [List.length_cons, List.length_nil, Nat.mul_succ, Nat.succ_mul]
    omega
/-- Parts with blanks between; what is empty is left out. -/
def jn (L : List (List UInt8)) : List UInt8 := Lib.join (L.filter fun x => !x.isEmpty) [32]
def tms (s : List UInt8) (n : Nat) : List UInt8 := Lib.join (List.replicate n s) [32]
theorem times_calls (s : List UInt8) (n : Nat) (w : World) (hn : n ≤ 20) (hs : s.length ≤ 100) :
    Calls Tryd.prog 25 #[.string ⟨s.toArray⟩, .int .i64 (n : Int)] w fun e w' => e = .returned (.string ⟨(tms s n).toArray⟩) ∧ Below w.heap.size w w' := by
  obtain ⟨i0, hi, hz0, hz1, hz2⟩ := info_parts infoStr
  unfold tms
  go_enter Tryd.func25, Tryd.ntmps25
  go_wp2_with fail
  go_loopw [5, 7] (fun v5 v7 wr => ∃ k : Nat, k ≤ n ∧ v7 = .int .i64 (k : Int) ∧ wr.ownsRow w.heap.size 9 1 v5 k ((List.replicate k s).map vS) ∧ Below w.heap.size w wr) (fun _ v7 _ => n - (intOf v7).toNat)
  case atStart => exact ⟨0, by omega, rfl, World.ownsRow_nil _ _ _ _, Below.refl _ _⟩
  case round =>
    obtain ⟨k, hk, rfl, hown, hb⟩ := hrel
    rcases Nat.lt_or_ge k n with hlt | hge
    · have k1 : (k : Int) < (n : Int) := by omega
      have hbase := hb.size
      go_wp2_with (at_builtin; refine wpList_append_one rfl _ _ 53 rfl w.heap.size 9 i0 _ 16 Tryd.underlying53 hi hz0 hz1 hz2 rfl _ _ _ rfl hown (.string ⟨s.toArray⟩) rfl rfl (by unfold maxLen; omega) (by omega) hbase ?_; intro gg cap w3 hown3 hkp)
      have hE : (List.replicate k s).map vS ++ [.string ⟨s.toArray⟩] = (List.replicate (k + 1) s).map vS := by rw [List.replicate_succ', List.map_append]; rfl
      rw [hE] at hown3
      have hb3 := hb.trans hkp.1
      clear hown hb hkp hE
      go_roundw
      case rel => exact ⟨k + 1, by omega, by go_num, hown3, hb3⟩
      case measure => simp [intOf]; omega
    · obtain rfl : k = n := by omega
      have k2 : (decide ((k : Int) < (k : Int))) = false := decide_eq_false (by omega)
      have hj := join_list (List.replicate k s) [32] (w := wr) (base := w.heap.size) (v := u5) (by rw [List.length_replicate]; exact hown) (by rw [List.length_replicate]; omega) (by
        have := join_len (List.replicate k s) 100 (fun x hx => by rw [(List.mem_replicate.1 hx).2]; exact hs)
        rw [List.length_replicate] at this
        have h2 : (100 + 1) * k ≤ 101 * 20 := Nat.mul_le_mul_left _ hn
        omega)
      clear hown
      go_wp2_with fail
      refine Cl.m hj ?_
      intro w1 hb1
      go_wp2_with fail
      go_ret
      exact ⟨rfl, hb.trans (hb1.mono hb.size)⟩
theorem flt_snoc (L : List (List UInt8)) (i : Nat) (x : List UInt8) (h : L[i]? = some x) : (L.take (i + 1)).filter (fun x => !x.isEmpty) = (L.take i).filter (fun x => !x.isEmpty) ++ (if x.isEmpty then [] else [x]) := by
  rw [List.take_add_one, h, List.filter_append]
  cases x <;> rfl
set_option maxHeartbeats 1000000 in
theorem jn_calls (bk c : Nat) (L : List (List UInt8)) (w : World) (hcells : ∀ j x, L[j]? = some x → w.cell? ⟨bk, j, none⟩ = some (.string ⟨x.toArray⟩)) (hL : L.length ≤ 8) (hx : ∀ x ∈ L, x.length ≤ 400) :
    Calls Tryd.prog 24 #[.slice (some ⟨bk, 0, none⟩) L.length c] w fun e w' => e = .returned (.string ⟨(jn L).toArray⟩) ∧ Below w.heap.size w w' := by
  obtain ⟨i0, hi, hz0, hz1, hz2⟩ := info_parts infoStr
  unfold jn
  have hjl : ∀ l : List (List UInt8), l.length ≤ 8 → (∀ x ∈ l, x.length ≤ 400) → (Lib.join l [32]).length ≤ 1000000 := fun l h1 h2 => by
    have := join_len l 400 h2
    have h3 : (400 + 1) * l.length ≤ 401 * 8 := Nat.mul_le_mul_left _ h1
    omega
  have hfl : ((L.filter fun x => !x.isEmpty)).length ≤ 8 := Nat.le_trans (List.length_filter_le _ _) hL
  have hjj := hjl (L.filter fun x => !x.isEmpty) hfl (fun x h => hx x ((List.mem_filter.1 h).1))
  clear hjl hx
  obtain ⟨n, hn⟩ : ∃ n, L.length = n := ⟨_, rfl⟩
  rw [hn] at hL ⊢
  go_enter Tryd.func24, Tryd.ntmps24
  go_wp2_with fail
  go_loopw [3, 8] (fun v3 v8 wr => ∃ k : Nat, k ≤ n ∧ v8 = .int .i64 (k : Int) ∧ wr.ownsRow w.heap.size 9 1 v3 ((L.take k).filter fun x => !x.isEmpty).length (((L.take k).filter fun x => !x.isEmpty).map vS) ∧ Below w.heap.size w wr) (fun _ v8 _ => n - (intOf v8).toNat)
  case atStart => exact ⟨0, by omega, rfl, World.ownsRow_nil _ _ _ _, Below.refl _ _⟩
  case round =>
    obtain ⟨k, hk, rfl, hown, hb⟩ := hrel
    rcases Nat.lt_or_ge k n with hlt | hge
    · obtain ⟨x, hxk⟩ : ∃ x, L[k]? = some x := ⟨L[k], List.getElem?_eq_getElem (by omega)⟩
      have hc := (hb.cell (cell_lt (hcells k x hxk))).trans (hcells k x hxk)
      have hE := flt_snoc L k x hxk
      have hfk : ((L.take k).filter fun x => !x.isEmpty).length ≤ 8 := Nat.le_trans (List.length_filter_le _ _) (by rw [List.length_take]; omega)
      generalize (L.take k).filter (fun x => !x.isEmpty) = F at *
      have k1 : (k : Int) < (n : Int) := by omega
      have hbase := hb.size
      cases x with
      | nil =>
        rw [if_pos (show ([] : List UInt8).isEmpty = true from rfl), List.append_nil] at hE
        have hc : wr.cell? ⟨bk, k, none⟩ = some (.string ⟨#[]⟩) := hc
        go_wp2_with fail
        go_roundw
        case rel => exact ⟨k + 1, by omega, by go_num, by rw [hE]; exact hown, hb⟩
        case measure => simp [intOf]; omega
      | cons y r =>
        rw [if_neg (by simp)] at hE
        go_wp2_with (at_builtin; refine wpList_append_one rfl _ _ 53 rfl w.heap.size 9 i0 _ 16 Tryd.underlying53 hi hz0 hz1 hz2 rfl _ _ _ rfl hown (.string ⟨(y :: r).toArray⟩) rfl rfl (by unfold maxLen; omega) (by omega) hbase ?_; intro gg cap w3 hown3 hkp)
        have hb3 := hb.trans hkp.1
        clear hown hb hkp
        go_roundw
        case rel => exact ⟨k + 1, by omega, by go_num, by rw [hE, List.length_append, List.map_append]; exact hown3, hb3⟩
        case measure => simp [intOf]; omega
    · obtain rfl : k = n := by omega
      have k2 : (decide ((k : Int) < (k : Int))) = false := decide_eq_false (by omega)
      rw [List.take_of_length_le (by omega)] at hown
      have hj := join_list _ [32] hown (by omega) hjj
      clear hown
      go_wp2_with fail
      refine Cl.m hj ?_
      intro w1 hb1
      go_wp2_with fail
      go_ret
      exact ⟨rfl, hb.trans (hb1.mono hb.size)⟩
end Go.Proofs.YtodimiffmmkndaaDoor
