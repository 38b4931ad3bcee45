/-
  gannetref01: Signed, Left, Right, digits, Hex, FromHex.
-/
import Derived.Test.YtbnpjmmgnijjlaaRbits
import Derived.Test.YtbnpjmmgnijjlaaOct
import Derived.Test.YtbnpjmmgnijjlaaOdig
import Derived.StillTailTactics
import Derived.Deep.RegionHeld3
namespace Go.Proofs.Ytbnpjmmgnijjlaa
open Go.RowKit Pl


def leftK (b : Nat) (i : Bool) (k : Nat) : Nat → Bool := fun j => if j < k then (if j = 0 then i else tb b ((j : Int) - 1)) else false
theorem leftK_succ (b : Nat) (i : Bool) (k : Nat) (hk : 1 ≤ k) : ∀ j, j < 8 → upd (leftK b i k) k (tb b ((k : Int) - 1)) j = leftK b i (k + 1) j := by
  intro j _
  unfold upd leftK
  by_cases e : j = k
  · subst e
    rw [if_pos rfl, if_pos (by omega), if_neg (by omega)]
  · rw [if_neg e]
    by_cases h1 : j < k
    · rw [if_pos h1, if_pos (show j < k + 1 by omega)]
    · rw [if_neg h1, if_neg (show ¬ j < k + 1 by omega)]
theorem leftK_all (b : Nat) (i : Bool) : ofB (leftK b i 8) = lft b i := ofB_eq (lft_lt b i) fun k hk => by
  rw [lft_bit b i k hk]
  unfold leftK
  rw [if_pos hk]
  by_cases h : k = 0
  · rw [if_pos h, if_pos h]
  · rw [if_neg h, if_neg h]
    have : (k : Int) - 1 = ((k - 1 : Nat) : Int) := by omega
    rw [this, tb_nat b (k - 1) (by omega)]

theorem refLeft_calls (b : Nat) (i : Bool) (w : World) (hb : b < 256) :
    Calls Try.prog 39 #[.int .u8 (b : Int), .bool i] w fun e w' => e = .returned (.tuple #[.int .u8 (lft b i : Nat), .bool (tb b 7)]) ∧ Below w.heap.size w w' := by
  have hs0 := bools_set (fun _ => false) 0 i (by omega)
  go_enter Try.func39, Try.ntmps39
  go_wp2_with fail
  refine (refBits_calls b _ hb).mono ?_
  rintro e w1 ⟨rfl, hb1⟩
  have hz : Blk (w1.alloc (.cells (bools fun _ => false) 38)) w1.heap.size 38 (bools fun _ => false) := Blk.new _ _ _
  go_wp2_with (refine wpList_store_row rfl 38 _ _ rfl w1.heap.size (bools (bitsOf b)) rfl rfl 38 _ hz (by kernel_rfl) rfl (by kernel_rfl) ?_; rw [setRow_new])
  go_loopw [8] (fun i' wr => ∃ k : Nat, 1 ≤ k ∧ k ≤ 8 ∧ i' = .int .i64 (k : Int) ∧ wr = (w1.alloc (.cells (bools (bitsOf b)) 38)).alloc (.cells (bools (leftK b i k)) 38)) (fun i' _ => 8 - (intOf i').toNat)
  case atStart => exact ⟨1, by omega, by omega, rfl, by rfl⟩
  case round =>
    obtain ⟨k, hk1, hk, rfl, rfl⟩ := hrel
    by_cases hlt : k < 8
    · have hlt' : (k : Int) < 8 := by omega
      have hgL := bools_get (bitsOf b) (k - 1) (by omega)
      rw [show bitsOf b (k - 1) = tb b ((k : Int) - 1) from by unfold bitsOf; congr 1; omega] at hgL
      have hgM := bools_get (leftK b i k) k hlt
      have hsM := fun x => bools_set (leftK b i k) k x hlt
      go_wp2_with fail
      go_roundw
      case rel => exact ⟨k + 1, by omega, by omega, by go_num, by rw [bools_congr (leftK_succ b i k hk1)]⟩
      case measure => simp [intOf]; omega
    · obtain rfl : k = 8 := by omega
      have hbM : Blk ((w1.alloc (.cells (bools (bitsOf b)) 38)).alloc (.cells (bools (leftK b i 8)) 38)) (w1.heap.size + 1) 38 (bools (leftK b i 8)) := heap_alloc2_new w1 _ _
      have hbL : Blk ((w1.alloc (.cells (bools (bitsOf b)) 38)).alloc (.cells (bools (leftK b i 8)) 38)) w1.heap.size 38 (bools (bitsOf b)) := heap_alloc2_old w1 _ _
      have hbx : Below w.heap.size w ((w1.alloc (.cells (bools (bitsOf b)) 38)).alloc (.cells (bools (leftK b i 8)) 38)) := (hb1.alloc hb1.size _).alloc (by have := hb1.size; simp; omega) _
      generalize hgx : (w1.alloc _).alloc _ = wx at hbM hbL hbx ⊢
      have hltM := hbM.lt
      have hltL := hbL.lt
      clear hgx
      have c0 : wx.cell? ⟨w1.heap.size + 1, 0, none⟩ = some (.bool (leftK b i 8 0)) := (hbM.cell 0).trans (bools_get _ 0 (by omega))
      have c1 : wx.cell? ⟨w1.heap.size + 1, 1, none⟩ = some (.bool (leftK b i 8 1)) := (hbM.cell 1).trans (bools_get _ 1 (by omega))
      have c2 : wx.cell? ⟨w1.heap.size + 1, 2, none⟩ = some (.bool (leftK b i 8 2)) := (hbM.cell 2).trans (bools_get _ 2 (by omega))
      have c3 : wx.cell? ⟨w1.heap.size + 1, 3, none⟩ = some (.bool (leftK b i 8 3)) := (hbM.cell 3).trans (bools_get _ 3 (by omega))
      have c4 : wx.cell? ⟨w1.heap.size + 1, 4, none⟩ = some (.bool (leftK b i 8 4)) := (hbM.cell 4).trans (bools_get _ 4 (by omega))
      have c5 : wx.cell? ⟨w1.heap.size + 1, 5, none⟩ = some (.bool (leftK b i 8 5)) := (hbM.cell 5).trans (bools_get _ 5 (by omega))
      have c6 : wx.cell? ⟨w1.heap.size + 1, 6, none⟩ = some (.bool (leftK b i 8 6)) := (hbM.cell 6).trans (bools_get _ 6 (by omega))
      have c7 : wx.cell? ⟨w1.heap.size + 1, 7, none⟩ = some (.bool (leftK b i 8 7)) := (hbM.cell 7).trans (bools_get _ 7 (by omega))
      have d7 : wx.cell? ⟨w1.heap.size, 7, none⟩ = some (.bool (tb b 7)) := (hbL.cell 7).trans (bools_get _ 7 (by omega))
      go_wp2_with fail
      go_region_held3 (fun w' => w'.cell? ⟨w1.heap.size, 7, none⟩ = some (.bool (tb b 7)) ∧ w'.cell? ⟨w1.heap.size + 1, 0, none⟩ = some (.bool (leftK b i 8 0)) ∧ w'.cell? ⟨w1.heap.size + 1, 1, none⟩ = some (.bool (leftK b i 8 1)) ∧ w'.cell? ⟨w1.heap.size + 1, 2, none⟩ = some (.bool (leftK b i 8 2)) ∧ w'.cell? ⟨w1.heap.size + 1, 3, none⟩ = some (.bool (leftK b i 8 3)) ∧ w'.cell? ⟨w1.heap.size + 1, 4, none⟩ = some (.bool (leftK b i 8 4)) ∧ w'.cell? ⟨w1.heap.size + 1, 5, none⟩ = some (.bool (leftK b i 8 5)) ∧ w'.cell? ⟨w1.heap.size + 1, 6, none⟩ = some (.bool (leftK b i 8 6)) ∧ w'.cell? ⟨w1.heap.size + 1, 7, none⟩ = some (.bool (leftK b i 8 7))) (first | exact ⟨d7, c0, c1, c2, c3, c4, c5, c6, c7⟩ | (go_simp; done) | simp_all)
        (first | (go_at_call 31; refine (refOf_exact (leftK b i 8) _).mono ?_; rintro e w' ⟨rfl, rfl⟩))
      go_wp2_with fail
      go_ret2
      refine ⟨ret_pair' (congrArg (Nat.cast (R := Int)) (leftK_all b i)) rfl, ?_⟩
      repeat (first | exact hbx | apply Below.drew | (refine Below.alloc ?_ (by have := hbx.size; simp; omega) _))

def rightK (b : Nat) (i : Bool) (k : Nat) : Nat → Bool := fun j => if j = 7 then i else if j < k then tb b ((j : Int) + 1) else false
theorem rightK_succ (b : Nat) (i : Bool) (k : Nat) (hk : k < 7) : ∀ j, j < 8 → upd (rightK b i k) k (tb b ((k : Int) + 1)) j = rightK b i (k + 1) j := by
  intro j _
  unfold upd rightK
  by_cases e : j = k
  · subst e
    rw [if_pos rfl, if_neg (show ¬ j = 7 by omega), if_pos (show j < j + 1 by omega)]
  · rw [if_neg e]
    by_cases h7 : j = 7
    · rw [if_pos h7, if_pos h7]
    · rw [if_neg h7, if_neg h7]
      by_cases h1 : j < k
      · rw [if_pos h1, if_pos (show j < k + 1 by omega)]
      · rw [if_neg h1, if_neg (show ¬ j < k + 1 by omega)]
theorem rightK_all (b : Nat) (i : Bool) (hb : b < 256) : ofB (rightK b i 7) = rgt b i := ofB_eq (rgt_lt i hb) fun k hk => by
  rw [rgt_bit b i hb k hk]
  unfold rightK
  by_cases h : k = 7
  · rw [if_pos h, if_pos h]
  · rw [if_neg h, if_neg h, if_pos (by omega)]
    exact tb_nat b (k + 1) (by omega)

theorem refRight_calls (b : Nat) (i : Bool) (w : World) (hb : b < 256) :
    Calls Try.prog 40 #[.int .u8 (b : Int), .bool i] w fun e w' => e = .returned (.tuple #[.int .u8 (rgt b i : Nat), .bool (tb b 0)]) ∧ Below w.heap.size w w' := by
  have hs0 := bools_set (fun _ => false) 7 i (by omega)
  go_enter Try.func40, Try.ntmps40
  go_wp2_with fail
  refine (refBits_calls b _ hb).mono ?_
  rintro e w1 ⟨rfl, hb1⟩
  have hz : Blk (w1.alloc (.cells (bools fun _ => false) 38)) w1.heap.size 38 (bools fun _ => false) := Blk.new _ _ _
  go_wp2_with (refine wpList_store_row rfl 38 _ _ rfl w1.heap.size (bools (bitsOf b)) rfl rfl 38 _ hz (by kernel_rfl) rfl (by kernel_rfl) ?_; rw [setRow_new])
  go_loopw [8] (fun i' wr => ∃ k : Nat, k ≤ 7 ∧ i' = .int .i64 (k : Int) ∧ wr = (w1.alloc (.cells (bools (bitsOf b)) 38)).alloc (.cells (bools (rightK b i k)) 38)) (fun i' _ => 7 - (intOf i').toNat)
  case atStart => exact ⟨0, by omega, rfl, by rfl⟩
  case round =>
    obtain ⟨k, hk, rfl, rfl⟩ := hrel
    by_cases hlt : k < 7
    · have hlt' : (k : Int) < 7 := by omega
      have hgL := bools_get (bitsOf b) (k + 1) (by omega)
      rw [show bitsOf b (k + 1) = tb b ((k : Int) + 1) from by unfold bitsOf; congr 1] at hgL
      have hgM := bools_get (rightK b i k) k (by omega)
      have hsM := fun x => bools_set (rightK b i k) k x (by omega)
      go_wp2_with fail
      go_roundw
      case rel => exact ⟨k + 1, by omega, by go_num, by rw [bools_congr (rightK_succ b i k hlt)]⟩
      case measure => simp [intOf]; omega
    · obtain rfl : k = 7 := by omega
      have hbM : Blk ((w1.alloc (.cells (bools (bitsOf b)) 38)).alloc (.cells (bools (rightK b i 7)) 38)) (w1.heap.size + 1) 38 (bools (rightK b i 7)) := heap_alloc2_new w1 _ _
      have hbL : Blk ((w1.alloc (.cells (bools (bitsOf b)) 38)).alloc (.cells (bools (rightK b i 7)) 38)) w1.heap.size 38 (bools (bitsOf b)) := heap_alloc2_old w1 _ _
      have hbx : Below w.heap.size w ((w1.alloc (.cells (bools (bitsOf b)) 38)).alloc (.cells (bools (rightK b i 7)) 38)) := (hb1.alloc hb1.size _).alloc (by have := hb1.size; simp; omega) _
      generalize hgx : (w1.alloc _).alloc _ = wx at hbM hbL hbx ⊢
      have hltM := hbM.lt
      have hltL := hbL.lt
      clear hgx
      have c0 : wx.cell? ⟨w1.heap.size + 1, 0, none⟩ = some (.bool (rightK b i 7 0)) := (hbM.cell 0).trans (bools_get _ 0 (by omega))
      have c1 : wx.cell? ⟨w1.heap.size + 1, 1, none⟩ = some (.bool (rightK b i 7 1)) := (hbM.cell 1).trans (bools_get _ 1 (by omega))
      have c2 : wx.cell? ⟨w1.heap.size + 1, 2, none⟩ = some (.bool (rightK b i 7 2)) := (hbM.cell 2).trans (bools_get _ 2 (by omega))
      have c3 : wx.cell? ⟨w1.heap.size + 1, 3, none⟩ = some (.bool (rightK b i 7 3)) := (hbM.cell 3).trans (bools_get _ 3 (by omega))
      have c4 : wx.cell? ⟨w1.heap.size + 1, 4, none⟩ = some (.bool (rightK b i 7 4)) := (hbM.cell 4).trans (bools_get _ 4 (by omega))
      have c5 : wx.cell? ⟨w1.heap.size + 1, 5, none⟩ = some (.bool (rightK b i 7 5)) := (hbM.cell 5).trans (bools_get _ 5 (by omega))
      have c6 : wx.cell? ⟨w1.heap.size + 1, 6, none⟩ = some (.bool (rightK b i 7 6)) := (hbM.cell 6).trans (bools_get _ 6 (by omega))
      have c7 : wx.cell? ⟨w1.heap.size + 1, 7, none⟩ = some (.bool (rightK b i 7 7)) := (hbM.cell 7).trans (bools_get _ 7 (by omega))
      have d0 : wx.cell? ⟨w1.heap.size, 0, none⟩ = some (.bool (tb b 0)) := (hbL.cell 0).trans (bools_get _ 0 (by omega))
      go_wp2_with fail
      go_region_held3 (fun w' => w'.cell? ⟨w1.heap.size, 0, none⟩ = some (.bool (tb b 0)) ∧ w'.cell? ⟨w1.heap.size + 1, 0, none⟩ = some (.bool (rightK b i 7 0)) ∧ w'.cell? ⟨w1.heap.size + 1, 1, none⟩ = some (.bool (rightK b i 7 1)) ∧ w'.cell? ⟨w1.heap.size + 1, 2, none⟩ = some (.bool (rightK b i 7 2)) ∧ w'.cell? ⟨w1.heap.size + 1, 3, none⟩ = some (.bool (rightK b i 7 3)) ∧ w'.cell? ⟨w1.heap.size + 1, 4, none⟩ = some (.bool (rightK b i 7 4)) ∧ w'.cell? ⟨w1.heap.size + 1, 5, none⟩ = some (.bool (rightK b i 7 5)) ∧ w'.cell? ⟨w1.heap.size + 1, 6, none⟩ = some (.bool (rightK b i 7 6)) ∧ w'.cell? ⟨w1.heap.size + 1, 7, none⟩ = some (.bool (rightK b i 7 7))) (first | exact ⟨d0, c0, c1, c2, c3, c4, c5, c6, c7⟩ | (go_simp; done) | simp_all)
        (first | (go_at_call 31; refine (refOf_exact (rightK b i 7) _).mono ?_; rintro e w' ⟨rfl, rfl⟩))
      go_wp2_with fail
      go_ret2
      refine ⟨ret_pair' (congrArg (Nat.cast (R := Int)) (rightK_all b i hb)) rfl, ?_⟩
      repeat (first | exact hbx | apply Below.drew | (refine Below.alloc ?_ (by have := hbx.size; simp; omega) _))
end Go.Proofs.Ytbnpjmmgnijjlaa
