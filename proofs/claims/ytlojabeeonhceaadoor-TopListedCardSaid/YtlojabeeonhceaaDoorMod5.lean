/-
  Package modes: join of two and of three; operand, of modes that stand by themselves.
-/
import Derived.Test.YtlojabeeonhceaaDoorMod4
namespace Go.Proofs.YtlojabeeonhceaaDoor
set_option linter.unusedSimpArgs false
set_option linter.unusedVariables false
set_option maxRecDepth 10000
open Go.RowKit Go.Shelf Pl
theorem join2_calls (bk : Nat) (x y : List UInt8) (w : World) (hB : Blk w bk 9 #[.string ⟨x.toArray⟩, .string ⟨y.toArray⟩]) (hlen : x.length + y.length ≤ 900) :
    Calls Tryd.prog 36 #[.slice (some ⟨bk, 0, none⟩) 2 2] w fun e w' => e = .returned (.string ⟨(x ++ 44 :: y).toArray⟩) ∧ Below w.heap.size w w' := by
  have e : Lib.join [x, y] [44] = x ++ 44 :: y := by
    rw [Lib.join_cons]
    simp [Lib.joinTail]
  have h := joinM_calls bk 2 [⟨x.toArray⟩, ⟨y.toArray⟩] w (fun j z hj => by
    rw [Nat.zero_add, hB.cell]
    match j, hj with
    | 0, hj => obtain rfl := Option.some.inj hj; rfl
    | 1, hj => obtain rfl := Option.some.inj hj; rfl
    | n + 2, hj => simp at hj) hB.lt (show 2 ≤ 10 by omega) (show 2 ≤ 2 by omega) (by
    show (Lib.join [x, y] [44]).length ≤ 1000
    rw [e]
    simp only [List.length_append, List.length_cons]
    omega)
  have h2 : Lib.join ([(⟨x.toArray⟩ : ByteArray), ⟨y.toArray⟩].map (·.data.toList)) [44] = x ++ 44 :: y := e
  rw [h2] at h
  exact h
theorem join3_calls (bk : Nat) (x y z : List UInt8) (w : World) (hB : Blk w bk 9 #[.string ⟨x.toArray⟩, .string ⟨y.toArray⟩, .string ⟨z.toArray⟩]) (hlen : x.length + y.length + z.length ≤ 900) :
    Calls Tryd.prog 36 #[.slice (some ⟨bk, 0, none⟩) 3 3] w fun e w' => e = .returned (.string ⟨(x ++ 44 :: (y ++ 44 :: z)).toArray⟩) ∧ Below w.heap.size w w' := by
  have e : Lib.join [x, y, z] [44] = x ++ 44 :: (y ++ 44 :: z) := by
    rw [Lib.join_cons]
    simp [Lib.joinTail]
  have h := joinM_calls bk 3 [⟨x.toArray⟩, ⟨y.toArray⟩, ⟨z.toArray⟩] w (fun j z hj => by
    rw [Nat.zero_add, hB.cell]
    match j, hj with
    | 0, hj => obtain rfl := Option.some.inj hj; rfl
    | 1, hj => obtain rfl := Option.some.inj hj; rfl
    | 2, hj => obtain rfl := Option.some.inj hj; rfl
    | n + 3, hj => simp at hj) hB.lt (show 3 ≤ 10 by omega) (show 3 ≤ 3 by omega) (by
    show (Lib.join [x, y, z] [44]).length ≤ 1000
    rw [e]
    simp only [List.length_append, List.length_cons]
    omega)
  have h2 : Lib.join ([(⟨x.toArray⟩ : ByteArray), ⟨y.toArray⟩, ⟨z.toArray⟩].map (·.data.toList)) [44] = x ++ 44 :: (y ++ 44 :: z) := e
  rw [h2] at h
  exact h
theorem dlr_len (n k : Nat) (hk : clampK (k : Int) = k) : (dlr n k).length = k + 1 := by
  unfold dlr
  rw [List.length_cons, hexT_len]
/-- A mode with one byte of its own, or with a word. -/
def opB (m : Nat) (l : List UInt8) : List UInt8 :=
  if m = 1 then 35 :: l else if m = 2 then l else if m = 3 then l ++ 44 :: [88] else if m = 4 then l ++ 44 :: [89] else if m = 5 then l else if m = 6 then l ++ 44 :: [88] else if m = 7 then l ++ 44 :: [89] else if m = 8 then 40 :: (l ++ [41])
  else if m = 9 then 40 :: ((l ++ 44 :: [88]) ++ [41]) else if m = 10 then 40 :: (l ++ [41, 44, 89]) else if m = 17 then 40 :: (l ++ [41]) else 40 :: ((l ++ 44 :: [88]) ++ [41])
theorem opB1_calls (m b o c : Nat) (p : Nat) (B : Nat → Nat) (w : World) (hm : m = 1 ∨ m = 2 ∨ m = 3 ∨ m = 4 ∨ m = 8 ∨ m = 9 ∨ m = 10) (hB : Byt w b o 1 B) :
    Calls Tryd.prog 25 #[.int .u8 (m : Int), .slice (some ⟨b, o, none⟩) 1 c, .int .u16 (p : Int)] w fun e w' => e = .returned (.string ⟨(opB m (dlr (B 0) 2)).toArray⟩) ∧ Below w.heap.size w w' := by
  have hc := hB 0 (by omega)
  rw [Nat.add_zero] at hc
  have hp := fun W => place_calls (B 0) W hc.2
  have hl := dlr_len (B 0) 2 rfl
  have hc := hc.1
  clear hB
  generalize dlr (B 0) 2 = l at *
  rcases hm with rfl | rfl | rfl | rfl | rfl | rfl | rfl
  · go_enter Tryd.func25, Tryd.ntmps25
    go_wp2_with fail
    refine Cl.m (hp _) ?_
    intro w1 hb1
    go_wp2_with fail
    go_ret
    exact ⟨rfl, by (repeat (first | exact Below.refl _ _ | assumption | refine Below.drew ?_ | refine Bl.alloc ?_ _ | refine below_drewN ?_ _ | refine Bl.chain ?_ (by assumption) (Nat.le_refl _)))⟩
  · go_enter Tryd.func25, Tryd.ntmps25
    go_wp2_with fail
    refine Cl.m (hp _) ?_
    intro w1 hb1
    go_wp2_with fail
    go_ret
    exact ⟨rfl, by (repeat (first | exact Below.refl _ _ | assumption | refine Below.drew ?_ | refine Bl.alloc ?_ _ | refine below_drewN ?_ _ | refine Bl.chain ?_ (by assumption) (Nat.le_refl _)))⟩
  · go_enter Tryd.func25, Tryd.ntmps25
    go_wp2_with fail
    refine Cl.m (hp _) ?_
    intro w1 hb1
    go_wp2_with fail
    refine Cl.m (join2_calls w1.heap.size l [88] _ (Blk.new _ _ _) (by simp only [List.length_cons, List.length_append, List.length_nil]; omega)) ?_
    intro w2 hb2
    go_wp2_with fail
    go_ret
    exact ⟨rfl, by (repeat (first | exact Below.refl _ _ | assumption | refine Below.drew ?_ | refine Bl.alloc ?_ _ | refine below_drewN ?_ _ | refine Bl.chain ?_ (by assumption) (Nat.le_refl _)))⟩
  · go_enter Tryd.func25, Tryd.ntmps25
    go_wp2_with fail
    refine Cl.m (hp _) ?_
    intro w1 hb1
    go_wp2_with fail
    refine Cl.m (join2_calls w1.heap.size l [89] _ (Blk.new _ _ _) (by simp only [List.length_cons, List.length_append, List.length_nil]; omega)) ?_
    intro w2 hb2
    go_wp2_with fail
    go_ret
    exact ⟨rfl, by (repeat (first | exact Below.refl _ _ | assumption | refine Below.drew ?_ | refine Bl.alloc ?_ _ | refine below_drewN ?_ _ | refine Bl.chain ?_ (by assumption) (Nat.le_refl _)))⟩
  · go_enter Tryd.func25, Tryd.ntmps25
    go_wp2_with fail
    refine Cl.m (hp _) ?_
    intro w1 hb1
    go_wp2_with fail
    go_ret
    exact ⟨rfl, by (repeat (first | exact Below.refl _ _ | assumption | refine Below.drew ?_ | refine Bl.alloc ?_ _ | refine below_drewN ?_ _ | refine Bl.chain ?_ (by assumption) (Nat.le_refl _)))⟩
  · go_enter Tryd.func25, Tryd.ntmps25
    go_wp2_with fail
    refine Cl.m (hp _) ?_
    intro w1 hb1
    go_wp2_with fail
    refine Cl.m (join2_calls w1.heap.size l [88] _ (Blk.new _ _ _) (by simp only [List.length_cons, List.length_append, List.length_nil]; omega)) ?_
    intro w2 hb2
    go_wp2_with fail
    go_ret
    exact ⟨rfl, by (repeat (first | exact Below.refl _ _ | assumption | refine Below.drew ?_ | refine Bl.alloc ?_ _ | refine below_drewN ?_ _ | refine Bl.chain ?_ (by assumption) (Nat.le_refl _)))⟩
  · go_enter Tryd.func25, Tryd.ntmps25
    go_wp2_with fail
    refine Cl.m (hp _) ?_
    intro w1 hb1
    go_wp2_with fail
    refine Cl.m (join2_calls w1.heap.size (40 :: (l ++ [41])) [89] _ (Blk.new _ _ _) (by simp only [List.length_cons, List.length_append, List.length_nil]; omega)) ?_
    intro w2 hb2
    go_wp2_with fail
    go_ret
    exact ⟨rfl, by (repeat (first | exact Below.refl _ _ | assumption | refine Below.drew ?_ | refine Bl.alloc ?_ _ | refine below_drewN ?_ _ | refine Bl.chain ?_ (by assumption) (Nat.le_refl _)))⟩
theorem opB2_calls (m b o c : Nat) (p : Nat) (B : Nat → Nat) (w : World) (hm : m = 5 ∨ m = 6 ∨ m = 7 ∨ m = 17 ∨ m = 18) (hB : Byt w b o 2 B) :
    Calls Tryd.prog 25 #[.int .u8 (m : Int), .slice (some ⟨b, o, none⟩) 2 c, .int .u16 (p : Int)] w fun e w' => e = .returned (.string ⟨(opB m (dlr (B 0 + 256 * B 1) 4)).toArray⟩) ∧ Below w.heap.size w w' := by
  have hw := word_calls b o 2 c B w hB (by omega)
  have hp := fun W => address_calls (B 0 + 256 * B 1) W (by have := (hB 0 (by omega)).2; have := (hB 1 (by omega)).2; omega)
  have hl := dlr_len (B 0 + 256 * B 1) 4 rfl
  clear hB
  generalize dlr (B 0 + 256 * B 1) 4 = l at *
  generalize B 0 + 256 * B 1 = a at *
  rcases hm with rfl | rfl | rfl | rfl | rfl
  · go_enter Tryd.func25, Tryd.ntmps25
    go_wp2_with fail
    refine Cl.m (hw) ?_
    intro w1 hb1
    go_wp2_with fail
    refine Cl.m (hp _) ?_
    intro w2 hb2
    go_wp2_with fail
    go_ret
    exact ⟨rfl, by (repeat (first | exact Below.refl _ _ | assumption | refine Below.drew ?_ | refine Bl.alloc ?_ _ | refine below_drewN ?_ _ | refine Bl.chain ?_ (by assumption) (Nat.le_refl _)))⟩
  · go_enter Tryd.func25, Tryd.ntmps25
    go_wp2_with fail
    refine Cl.m (hw) ?_
    intro w1 hb1
    go_wp2_with fail
    refine Cl.m (hp _) ?_
    intro w2 hb2
    go_wp2_with fail
    refine Cl.m (join2_calls w2.heap.size l [88] _ (Blk.new _ _ _) (by simp only [List.length_cons, List.length_append, List.length_nil]; omega)) ?_
    intro w3 hb3
    go_wp2_with fail
    go_ret
    exact ⟨rfl, by (repeat (first | exact Below.refl _ _ | assumption | refine Below.drew ?_ | refine Bl.alloc ?_ _ | refine below_drewN ?_ _ | refine Bl.chain ?_ (by assumption) (Nat.le_refl _)))⟩
  · go_enter Tryd.func25, Tryd.ntmps25
    go_wp2_with fail
    refine Cl.m (hw) ?_
    intro w1 hb1
    go_wp2_with fail
    refine Cl.m (hp _) ?_
    intro w2 hb2
    go_wp2_with fail
    refine Cl.m (join2_calls w2.heap.size l [89] _ (Blk.new _ _ _) (by simp only [List.length_cons, List.length_append, List.length_nil]; omega)) ?_
    intro w3 hb3
    go_wp2_with fail
    go_ret
    exact ⟨rfl, by (repeat (first | exact Below.refl _ _ | assumption | refine Below.drew ?_ | refine Bl.alloc ?_ _ | refine below_drewN ?_ _ | refine Bl.chain ?_ (by assumption) (Nat.le_refl _)))⟩
  · go_enter Tryd.func25, Tryd.ntmps25
    go_wp2_with fail
    refine Cl.m (hw) ?_
    intro w1 hb1
    go_wp2_with fail
    refine Cl.m (hp _) ?_
    intro w2 hb2
    go_wp2_with fail
    go_ret
    exact ⟨rfl, by (repeat (first | exact Below.refl _ _ | assumption | refine Below.drew ?_ | refine Bl.alloc ?_ _ | refine below_drewN ?_ _ | refine Bl.chain ?_ (by assumption) (Nat.le_refl _)))⟩
  · go_enter Tryd.func25, Tryd.ntmps25
    go_wp2_with fail
    refine Cl.m (hw) ?_
    intro w1 hb1
    go_wp2_with fail
    refine Cl.m (hp _) ?_
    intro w2 hb2
    go_wp2_with fail
    refine Cl.m (join2_calls w2.heap.size l [88] _ (Blk.new _ _ _) (by simp only [List.length_cons, List.length_append, List.length_nil]; omega)) ?_
    intro w3 hb3
    go_wp2_with fail
    go_ret
    exact ⟨rfl, by (repeat (first | exact Below.refl _ _ | assumption | refine Below.drew ?_ | refine Bl.alloc ?_ _ | refine below_drewN ?_ _ | refine Bl.chain ?_ (by assumption) (Nat.le_refl _)))⟩
end Go.Proofs.YtlojabeeonhceaaDoor
