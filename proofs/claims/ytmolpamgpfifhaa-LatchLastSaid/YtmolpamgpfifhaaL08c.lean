/-
  latch.Last, latch.Row.
-/
import Derived.Test.YtmolpamgpfifhaaL08b
import Derived.Test.YtmolpamgpfifhaaOpen
namespace Go.Proofs.Ytmolpamgpfifhaa
open Go.RowKit Pl

/-- A slice of steps, read step by step: masks and data. -/
def StepsAt (w : World) (a : Option Addr) (len : Nat) (M D : Nat → Nat) : Prop :=
  ∀ i, i < len → ∃ b off, a = some ⟨b, off, none⟩ ∧ b < w.heap.size ∧ w.cell? ⟨b, off + i * 2, none⟩ = some (.int .u8 (M i : Nat)) ∧ w.cell? ⟨b, off + i * 2 + 1, none⟩ = some (.int .u8 (D i : Nat)) ∧ M i < 256 ∧ D i < 256

theorem StepsAt.below {w w' : World} {a : Option Addr} {len : Nat} {M D : Nat → Nat} {B : Nat} (h : StepsAt w a len M D) (hb : Below B w w') (hB : w.heap.size ≤ B) : StepsAt w' a len M D := by
  intro i hi
  obtain ⟨b, off, ha, hlt, hc, hd, h1, h2⟩ := h i hi
  exact ⟨b, off, ha, Nat.lt_of_lt_of_le hlt hb.size, (hb.cell (p := ⟨b, off + i * 2, none⟩) (by simp; omega)).trans hc, (hb.cell (p := ⟨b, off + i * 2 + 1, none⟩) (by simp; omega)).trans hd, h1, h2⟩

/-- Which step drove bit i last, of the first n. -/
def lst (M : Nat → Nat) (i : Nat) : Nat → Int
  | 0 => -1
  | n + 1 => if tb (M n) (i : Int) then (n : Int) else lst M i n

def lastK (M : Nat → Nat) (len k : Nat) : Nat → Value := fun i => .int .i64 (if i < k then lst M i len else 0)
def lastJ (M : Nat → Nat) (len k n : Nat) : Nat → Value := fun i => if i = k then .int .i64 (lst M k n) else lastK M len k i

theorem lastK_start (M : Nat → Nat) (len k : Nat) : ∀ i, i < 8 → updv (lastK M len k) k (.int .i64 (-1)) i = lastJ M len k 0 i := by
  intro i _
  unfold updv lastJ lst
  rfl

theorem lastJ_at (M : Nat → Nat) (len k n : Nat) : lastJ M len k n k = .int .i64 (lst M k n) := by simp [lastJ]
theorem lastJ_no (M : Nat → Nat) (len k n : Nat) (h : tb (M n) (k : Int) = false) : lastJ M len k (n + 1) = lastJ M len k n := by
  funext i
  unfold lastJ
  split
  · rw [lst, h]; rfl
  · rfl
theorem lastJ_yes (M : Nat → Nat) (len k n : Nat) (h : tb (M n) (k : Int) = true) : ∀ i, i < 8 → updv (lastJ M len k n) k (.int .i64 (n : Int)) i = lastJ M len k (n + 1) i := by
  intro i _
  unfold updv lastJ
  split
  · rw [lst, h]; rfl
  · rfl
theorem lastK_succ (M : Nat → Nat) (len k : Nat) : ∀ i, i < 8 → lastJ M len k len i = lastK M len (k + 1) i := by
  intro i _
  unfold lastJ lastK
  by_cases h : i = k
  · subst h; simp
  · rw [if_neg h]
    by_cases h2 : i < k
    · rw [if_pos h2, if_pos (by omega)]
    · rw [if_neg h2, if_neg (by omega)]

/-- The world with the result's block. -/
def W0 (w : World) : World := w.alloc (.cells #[.int .i64 0, .int .i64 0, .int .i64 0, .int .i64 0, .int .i64 0, .int .i64 0, .int .i64 0, .int .i64 0] 36)
theorem W0_cell (w : World) (b i : Nat) (h : b < w.heap.size) : (W0 w).cell? ⟨b, i, none⟩ = w.cell? ⟨b, i, none⟩ := World.cell?_alloc_past _ _ _ h

theorem latLast_calls (a : Option Addr) (len cap : Nat) (M D : Nat → Nat) (w : World) (hs : StepsAt w a len M D) (hlen : len ≤ 1000000) :
    Calls Try.prog 12 #[.slice a len cap] w
      fun e w' => e = .returned (.agg (arr 8 (lastK M len 8))) ∧ Below w.heap.size w w' := by
  go_enter Try.func12, Try.ntmps12
  go_wp2
  go_loopw [7] (fun i wr => ∃ k : Nat, k ≤ 8 ∧ i = .int .i64 (k : Int) ∧ Blk wr (w.heap.size + 1) 36 (arr 8 (lastK M len k)) ∧ Below (w.heap.size + 1) (W0 w) wr) (fun i _ => 8 - (intOf i).toNat)
  case atStart => exact ⟨0, Nat.zero_le _, rfl, heap_alloc2_new w _ _, (Below.refl _ (W0 w)).alloc (by simp [W0]) _⟩
  case round =>
    obtain ⟨k, hk, rfl, hblk, hbel⟩ := hrel
    by_cases hlt : k < 8
    · have hlt' : (k : Int) < 8 := by omega
      have hc1 : wr.cell? ⟨w.heap.size + 1, k, none⟩ = some (lastK M len k k) := (hblk.cell k).trans (arr_get 8 _ k hlt)
      have hf1 := hblk.frozen k
      have hblk1 := hblk.set_ k (.int .i64 (-1))
      rw [arr_set 8 _ k _ hlt, arr_congr (lastK_start M len k)] at hblk1
      have hbel1 := hbel.setCell (p := ⟨w.heap.size + 1, k, none⟩) (by simp) (.int .i64 (-1))
      obtain ⟨wo, rfl⟩ : ∃ wo : World, wo = wr := ⟨_, rfl⟩
      go_wp2_with fail
      go_loopw [14] (fun j wi => ∃ n : Nat, n ≤ len ∧ j = .int .i64 (n : Int) ∧ Blk wi (w.heap.size + 1) 36 (arr 8 (lastJ M len k n)) ∧ Below (w.heap.size + 1) (W0 w) wi) (fun j _ => len - (intOf j).toNat)
      case atStart => exact ⟨0, Nat.zero_le _, rfl, hblk1, hbel1⟩
      case round =>
        clear hblk1 hbel1 hblk hbel hc1 hf1
        obtain ⟨n, hn, rfl, hblk, hbel⟩ := hrel
        by_cases hnl : n < len
        · have hnl' : (n : Int) < (len : Int) := by omega
          obtain ⟨b, off, rfl, hblt, hcM, hcD, hM, hD⟩ := hs n hnl
          have hcM' := (hbel.cell (p := ⟨b, off + n * 2, none⟩) (by simp; omega)).trans ((W0_cell w b _ hblt).trans hcM)
          have hcD' := (hbel.cell (p := ⟨b, off + n * 2 + 1, none⟩) (by simp; omega)).trans ((W0_cell w b _ hblt).trans hcD)
          have hcB : wr.cell? ⟨w.heap.size + 1, k, none⟩ = some (.int .i64 (lst M k n)) := (hblk.cell k).trans ((arr_get 8 _ k hlt).trans (by rw [lastJ_at]))
          have hfB := hblk.frozen k
          have hsz := hblk.lt
          have hsz' : w.heap.size + 1 < wr.heap.size := hsz
          cases hb : tb (M n) k
          · have Hb := hide hb
            go_wp2_with (go_at_call 16; refine (octBit_calls _ _ _ hM).mono ?_; rintro e w' ⟨rfl, rfl⟩)
            go_roundw
            case rel => exact ⟨n + 1, by omega, by go_num, by rw [lastJ_no _ _ _ _ Hb.out]; exact hblk.alloc _, hbel.alloc (by omega) _⟩
            case measure => simp [intOf]; omega
          · have Hb := hide hb
            go_wp2_with (go_at_call 16; refine (octBit_calls _ _ _ hM).mono ?_; rintro e w' ⟨rfl, rfl⟩)
            go_roundw
            case rel =>
              refine ⟨n + 1, by omega, by go_num, ?_, (hbel.setCell (by simp) _).alloc (by simp [World.setCell]; omega) _⟩
              have h2 := hblk.set_ k (.int .i64 (n : Int))
              rw [arr_set 8 _ k _ hlt, arr_congr (lastJ_yes M len k n Hb.out)] at h2
              exact h2.alloc _
            case measure => simp [intOf]; omega
        · obtain rfl : n = len := by omega
          go_wp2_with fail
          go_roundw
          case rel => exact ⟨k + 1, by omega, by go_num, by rw [arr_congr (lastK_succ M n k)] at hblk; exact hblk, hbel⟩
          case measure => simp [intOf]; omega
    · obtain rfl : k = 8 := by omega
      have hr : wr.heap[w.heap.size]? = some (.cells #[.int .i64 0, .int .i64 0, .int .i64 0, .int .i64 0, .int .i64 0, .int .i64 0, .int .i64 0, .int .i64 0] 36 (0, 0)) :=
        (hbel.block w.heap.size (by omega)).trans (heap_alloc_new w _)
      go_wp2_with (first
        | (refine wpList_load_row rfl 36 _ rfl (w.heap.size + 1) rfl 36 _ (0, 0) _ hblk Try.underlying36 rfl (by kernel_rfl) ?_)
        | (refine wpList_store_row rfl 36 _ _ rfl w.heap.size (arr 8 (lastK M len 8)) rfl rfl 36 _ hr (by kernel_rfl) rfl (by kernel_rfl) ?_))
      refine bodyPost_ret (results_cell_row rfl _ _ w.heap.size 36 (arr 8 (lastK M len 8)) (0, 0) _ rfl (setRow_heap _ _ _ _ _ _ hr) Try.underlying36 rfl (by kernel_rfl)) rfl ⟨rfl, ?_⟩
      exact below_setRow (((Below.refl w.heap.size w).alloc (Nat.le_refl _) _).trans (hbel.mono (by omega))) (Nat.le_refl _) _

/-- What the buffer has behind so many steps. -/
def stt (h : Nat) (M D : Nat → Nat) : Nat → Nat
  | 0 => h
  | n + 1 => mix (stt h M D n) (M n) (D n)
theorem stt_lt (h : Nat) (M D : Nat → Nat) (hh : h < 256) (n : Nat) (hD : ∀ i, i < n → D i < 256) : stt h M D n < 256 := by
  induction n with
  | zero => exact hh
  | succ n ih => exact mix_lt (hD n (by omega))
def outs (h : Nat) (M D : Nat → Nat) (n : Nat) : List Int := (List.range n).map fun i => ((stt h M D (i + 1) : Nat) : Int)
theorem outs_succ (h : Nat) (M D : Nat → Nat) (n : Nat) : (outs h M D (n + 1)).map (Value.int .u8) = (outs h M D n).map (Value.int .u8) ++ [.int .u8 ((stt h M D (n + 1) : Nat) : Int)] := by
  unfold outs
  simp [List.range_succ]

theorem infoU8 : (Try.prog.info? 5).map (fun i => (i.zero, i.size, i.bytes)) = some (some (.int .u8 0), 1, 1) := by kernel_rfl

theorem one_new (w : World) (x : Value) (t : TypeId) : ∀ j u, [x][j]? = some u → (w.alloc (.cells #[x] t)).cell? ((⟨w.heap.size, 0, none⟩ : Addr).add j) = some u := by
  intro j u hj
  match j, hj with
  | 0, hj => simp at hj; subst hj; simp [Addr.add]
  | j + 1, hj => simp at hj

theorem latRow_calls (h : Nat) (a : Option Addr) (len cap : Nat) (M D : Nat → Nat) (w : World) (hh : h < 256) (hs : StepsAt w a len M D) (hlen : len ≤ 1000000) :
    Calls Try.prog 11 #[.int .u8 (h : Int), .slice a len cap] w
      fun e w' => ∃ b c, e = .returned (.tuple #[.slice b len c, .int .u8 ((stt h M D len : Nat) : Int)]) ∧ NumsAt w' .u8 b len (fun i => (outs h M D len).getD i 0) ∧ Below w.heap.size w w' := by
  obtain ⟨i0, hi, hz0, hz1, hz2⟩ := info_parts infoU8
  go_enter Try.func11, Try.ntmps11
  go_wp2_with (go_at_call 7; refine (latNew_calls _ _).mono ?_; rintro e w' ⟨rfl, rfl⟩)
  go_loopw [7, 14] (fun v i wr => ∃ n : Nat, n ≤ len ∧ i = .int .i64 (n : Int) ∧ wr.ownsRow (w.heap.size + 1) 5 1 v n ((outs h M D n).map (Value.int .u8)) ∧
      wr.cell? ⟨w.heap.size, 0, none⟩ = some (.int .u8 ((stt h M D n : Nat) : Int)) ∧ wr.frozen? ⟨w.heap.size, 0, none⟩ = false ∧ w.heap.size < wr.heap.size ∧ Below w.heap.size w wr) (fun _ i _ => len - (intOf i).toNat)
  case atStart => exact ⟨0, Nat.zero_le _, rfl, World.ownsRow_nil _ _ _ _, by simp [go_sem, stt], by simp [go_sem], by simp, (Below.refl _ _).alloc (Nat.le_refl _) _⟩
  case round =>
    obtain ⟨n, hn, rfl, hown, hcL, hfL, hsz, hbel⟩ := hrel
    by_cases hnl : n < len
    · have hnl' : (n : Int) < (len : Int) := by omega
      obtain ⟨b, off, rfl, hblt, hcM, hcD, hM, hD⟩ := hs n hnl
      have hcM' := (hbel.cell (p := ⟨b, off + n * 2, none⟩) (by simp; omega)).trans hcM
      have hcD' := (hbel.cell (p := ⟨b, off + n * 2 + 1, none⟩) (by simp; omega)).trans hcD
      have hst : stt h M D n < 256 := stt_lt h M D hh n fun i hi => by obtain ⟨_, _, _, _, _, _, _, h8⟩ := hs i (by omega); exact h8
      have hnext : mix (stt h M D n) (M n) (D n) = stt h M D (n + 1) := rfl
      have hcL' := fun o => (World.cell?_alloc_past (w := wr) o w.heap.size 0 hsz).trans hcL
      have hfL' := fun o => (World.frozen?_alloc_past (w := wr) o w.heap.size 0 hsz).trans hfL
      go_wp2_with fail
      refine (latRead_calls _ (stt h M D n) _ _ _ hst hM hD (hcL' _) (hfL' _)).mono ?_
      rintro e w' ⟨rfl, rfl⟩
      have hown2 := ownsRow_setCell_below hown (a := ⟨w.heap.size, 0, none⟩) (by simp) (.int .u8 ((mix (stt h M D n) (M n) (D n) : Nat) : Int))
      go_wp2_with (at_builtin; refine wpList_append_own _ rfl _ _ 30 rfl (w.heap.size + 1) 5 i0 (.int .u8 0) 1 1 Try.underlying30 hi hz0 hz1 hz2 rfl (by decide) _ _ _ rfl ((hown2.alloc _).alloc _) _ 1 1 [.int .u8 ((mix (stt h M D n) (M n) (D n) : Nat) : Int)] rfl rfl ?c1 ?c2 ?c3 ?c4 ?c5 ?_)
      case c1 => exact one_new_at _ _ _ _ (by simp [World.setCell])
      case c2 => exact one_int _ _
      case c3 => unfold maxLen; omega
      case c4 => omega
      case c5 => simp [World.setCell]; omega
      intro v1 w1 hown1 hgrow1 _
      have hlt1 : w.heap.size < w1.heap.size := Nat.lt_of_lt_of_le (by simp [World.setCell]; omega) hgrow1.size
      have hc1 := grown_cell hgrow1 (p := ⟨w.heap.size, 0, none⟩) (v := .int .u8 ((stt h M D (n + 1) : Nat) : Int)) (by simp [go_sem, hcL, hsz]) (own_ne hown (by simp))
      have hf1 := grown_frozen hgrow1 (p := ⟨w.heap.size, 0, none⟩) (by simp [World.setCell]; omega) (by simp [go_sem, hfL, hsz]) (own_ne hown (by simp))
      have hb1 := (((hbel.setCell (p := ⟨w.heap.size, 0, none⟩) (Nat.le_refl _) (.int .u8 ((stt h M D (n + 1) : Nat) : Int))).alloc (by simp [World.setCell]; omega) _).alloc (by simp [World.setCell]; omega) _).grown hgrow1 (by simp [World.setCell]; omega) (fun k hk => by have := (hown.lt k hk).1; omega)
      go_wp2_with fail
      go_roundw
      case rel => exact ⟨n + 1, by omega, by go_num, by rw [outs_succ]; exact hown1, hc1, hf1, hlt1, hb1⟩
      case measure => simp [intOf]; omega
    · obtain rfl : n = len := by omega
      obtain ⟨b, c, rfl, hnums⟩ := nums_of_own hown
      go_wp2_with fail
      refine (latValue_calls _ _ _ hcL).mono ?_
      rintro e w' ⟨rfl, rfl⟩
      go_wp2_with fail
      go_ret2
      exact ⟨_, _, rfl, hnums, hbel⟩
end Go.Proofs.Ytmolpamgpfifhaa
