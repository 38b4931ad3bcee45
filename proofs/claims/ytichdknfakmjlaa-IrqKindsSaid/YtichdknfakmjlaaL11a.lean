/-
  gannetlaw11.IrqKinds.
-/
import Derived.Test.YtichdknfakmjlaaL11
import Derived.Test.YtichdknfakmjlaaOpen
namespace Go.Proofs.Ytichdknfakmjlaa
open Go.RowKit Pl

set_option maxHeartbeats 4000000 in
theorem irqKinds_calls (k : Nat) (w : World) (hk : k < 256) : Calls Try.prog 5 #[.int .u8 (k : Int)] w fun e w' => e = .returned (.bool true) ∧ Below w.heap.size w w' := by
  by_cases h : 1 ≤ k ∧ k ≤ 5
  · obtain ⟨h1, h5⟩ := h
    obtain rfl | rfl | rfl | rfl | rfl : k = 1 ∨ k = 2 ∨ k = 3 ∨ k = 4 ∨ k = 5 := by omega
    · have hG : ∀ w, Calls Try.prog 16 #[.int .u8 1] w fun e w' => e = .returned (.tuple #[.int .u16 65534, .bool true]) ∧ w = w' := fun w => iqGoes_calls 1 w
      have hB : ∀ w, Calls Try.prog 14 #[.int .u8 1] w fun e w' => e = .returned (.int .i64 (-1)) ∧ w = w' := fun w => iqBit_calls 1 w
      have hN : ∀ w, Calls Try.prog 17 #[.int .u8 1] w fun e w' => e = .returned (.string { data := #[114, 101, 115, 101, 116] }) ∧ Below w.heap.size w w' := fun w => iqName_calls 1 w (by omega)
      go_enter Try.func5, Try.ntmps5
      (go_wp2_with fail; refine Cl.m (live11_calls _) ?_; intro w1 hb1)
      (go_wp2_with fail; refine Cl.p (hG _) ?_)
      have hN2 : Blk ((w1.alloc (.cells #[.string { data := #[] }, .string { data := #[114, 101, 115, 101, 116] }, .string { data := #[110, 109, 105] }, .string { data := #[116, 105, 109, 101, 114] }, .string { data := #[105, 114, 113, 49] }, .string { data := #[105, 114, 113, 50] }] 41)).alloc (.cells #[.int .i64 (-1), .int .i64 (-1), .int .i64 (-1), .int .i64 2, .int .i64 1, .int .i64 0] 42)) w1.heap.size 41 #[.string { data := #[] }, .string { data := #[114, 101, 115, 101, 116] }, .string { data := #[110, 109, 105] }, .string { data := #[116, 105, 109, 101, 114] }, .string { data := #[105, 114, 113, 49] }, .string { data := #[105, 114, 113, 50] }] := (Blk.new _ _ _).alloc _
      have hB2 : Blk ((w1.alloc (.cells #[.string { data := #[] }, .string { data := #[114, 101, 115, 101, 116] }, .string { data := #[110, 109, 105] }, .string { data := #[116, 105, 109, 101, 114] }, .string { data := #[105, 114, 113, 49] }, .string { data := #[105, 114, 113, 50] }] 41)).alloc (.cells #[.int .i64 (-1), .int .i64 (-1), .int .i64 (-1), .int .i64 2, .int .i64 1, .int .i64 0] 42)) (w1.heap.size + 1) 42 #[.int .i64 (-1), .int .i64 (-1), .int .i64 (-1), .int .i64 2, .int .i64 1, .int .i64 0] := Blk.newAt (by simp)
      have hb2 : Below w.heap.size w ((w1.alloc (.cells #[.string { data := #[] }, .string { data := #[114, 101, 115, 101, 116] }, .string { data := #[110, 109, 105] }, .string { data := #[116, 105, 109, 101, 114] }, .string { data := #[105, 114, 113, 49] }, .string { data := #[105, 114, 113, 50] }] 41)).alloc (.cells #[.int .i64 (-1), .int .i64 (-1), .int .i64 (-1), .int .i64 2, .int .i64 1, .int .i64 0] 42)) := by (repeat (first | exact Below.refl _ _ | assumption | refine Below.drew ?_ | refine Bl.alloc ?_ _ | refine below_drewN ?_ _ | refine Bl.chain ?_ (by assumption) (Nat.le_refl _)))
      go_wp2_with fail
      generalize (w1.alloc (.cells #[.string { data := #[] }, .string { data := #[114, 101, 115, 101, 116] }, .string { data := #[110, 109, 105] }, .string { data := #[116, 105, 109, 101, 114] }, .string { data := #[105, 114, 113, 49] }, .string { data := #[105, 114, 113, 50] }] 41)).alloc (.cells #[.int .i64 (-1), .int .i64 (-1), .int .i64 (-1), .int .i64 2, .int .i64 1, .int .i64 0] 42) = w2 at *
      have n1 := hN2.lt
      have n2 := hB2.lt
      generalize w1.heap.size = G at *
      clear hb1
      go_region_held3 (fun w' => (w'.cell? ⟨G, 1, none⟩ = some (.string { data := #[114, 101, 115, 101, 116] }) ∧ w'.cell? ⟨G + 1, 1, none⟩ = some (.int .i64 (-1))) ∧ Below w.heap.size w w') (first | exact ⟨⟨hN2.drew.cell 1, hB2.drew.cell 1⟩, hb2.drew⟩ | exact ⟨⟨(Blk.below hN2.drew hbz n1).cell 1, (Blk.below hB2.drew hbz n2).cell 1⟩, hb2.drew.trans (hbz.mono hb2.size)⟩) (first | (go_at_call 14; refine (hB _).mono ?_; rintro e w' ⟨rfl, rfl⟩) | (go_at_call 17; refine (hN _).mono ?_; rintro e wz ⟨rfl, hbz⟩))
      all_goals first
        | (go_wp2_with fail; go_ret; exact ⟨rfl, hb2.drew.trans (hbz.mono hb2.size)⟩)
        | (exfalso; rename_i hne _ _ _; exact hne (by decide))
        | (exfalso; rename_i hne; exact hne (by decide))
        | (exfalso; rename_i hne _; exact hne (by decide))
        | (exfalso; rename_i hne _ _; exact hne (by decide))
    · have hG : ∀ w, Calls Try.prog 16 #[.int .u8 2] w fun e w' => e = .returned (.tuple #[.int .u16 65532, .bool true]) ∧ w = w' := fun w => iqGoes_calls 2 w
      have hB : ∀ w, Calls Try.prog 14 #[.int .u8 2] w fun e w' => e = .returned (.int .i64 (-1)) ∧ w = w' := fun w => iqBit_calls 2 w
      have hN : ∀ w, Calls Try.prog 17 #[.int .u8 2] w fun e w' => e = .returned (.string { data := #[110, 109, 105] }) ∧ Below w.heap.size w w' := fun w => iqName_calls 2 w (by omega)
      go_enter Try.func5, Try.ntmps5
      (go_wp2_with fail; refine Cl.m (live11_calls _) ?_; intro w1 hb1)
      (go_wp2_with fail; refine Cl.p (hG _) ?_)
      have hN2 : Blk ((w1.alloc (.cells #[.string { data := #[] }, .string { data := #[114, 101, 115, 101, 116] }, .string { data := #[110, 109, 105] }, .string { data := #[116, 105, 109, 101, 114] }, .string { data := #[105, 114, 113, 49] }, .string { data := #[105, 114, 113, 50] }] 41)).alloc (.cells #[.int .i64 (-1), .int .i64 (-1), .int .i64 (-1), .int .i64 2, .int .i64 1, .int .i64 0] 42)) w1.heap.size 41 #[.string { data := #[] }, .string { data := #[114, 101, 115, 101, 116] }, .string { data := #[110, 109, 105] }, .string { data := #[116, 105, 109, 101, 114] }, .string { data := #[105, 114, 113, 49] }, .string { data := #[105, 114, 113, 50] }] := (Blk.new _ _ _).alloc _
      have hB2 : Blk ((w1.alloc (.cells #[.string { data := #[] }, .string { data := #[114, 101, 115, 101, 116] }, .string { data := #[110, 109, 105] }, .string { data := #[116, 105, 109, 101, 114] }, .string { data := #[105, 114, 113, 49] }, .string { data := #[105, 114, 113, 50] }] 41)).alloc (.cells #[.int .i64 (-1), .int .i64 (-1), .int .i64 (-1), .int .i64 2, .int .i64 1, .int .i64 0] 42)) (w1.heap.size + 1) 42 #[.int .i64 (-1), .int .i64 (-1), .int .i64 (-1), .int .i64 2, .int .i64 1, .int .i64 0] := Blk.newAt (by simp)
      have hb2 : Below w.heap.size w ((w1.alloc (.cells #[.string { data := #[] }, .string { data := #[114, 101, 115, 101, 116] }, .string { data := #[110, 109, 105] }, .string { data := #[116, 105, 109, 101, 114] }, .string { data := #[105, 114, 113, 49] }, .string { data := #[105, 114, 113, 50] }] 41)).alloc (.cells #[.int .i64 (-1), .int .i64 (-1), .int .i64 (-1), .int .i64 2, .int .i64 1, .int .i64 0] 42)) := by (repeat (first | exact Below.refl _ _ | assumption | refine Below.drew ?_ | refine Bl.alloc ?_ _ | refine below_drewN ?_ _ | refine Bl.chain ?_ (by assumption) (Nat.le_refl _)))
      go_wp2_with fail
      generalize (w1.alloc (.cells #[.string { data := #[] }, .string { data := #[114, 101, 115, 101, 116] }, .string { data := #[110, 109, 105] }, .string { data := #[116, 105, 109, 101, 114] }, .string { data := #[105, 114, 113, 49] }, .string { data := #[105, 114, 113, 50] }] 41)).alloc (.cells #[.int .i64 (-1), .int .i64 (-1), .int .i64 (-1), .int .i64 2, .int .i64 1, .int .i64 0] 42) = w2 at *
      have n1 := hN2.lt
      have n2 := hB2.lt
      generalize w1.heap.size = G at *
      clear hb1
      go_region_held3 (fun w' => (w'.cell? ⟨G, 2, none⟩ = some (.string { data := #[110, 109, 105] }) ∧ w'.cell? ⟨G + 1, 2, none⟩ = some (.int .i64 (-1))) ∧ Below w.heap.size w w') (first | exact ⟨⟨hN2.drew.cell 2, hB2.drew.cell 2⟩, hb2.drew⟩ | exact ⟨⟨(Blk.below hN2.drew hbz n1).cell 2, (Blk.below hB2.drew hbz n2).cell 2⟩, hb2.drew.trans (hbz.mono hb2.size)⟩) (first | (go_at_call 14; refine (hB _).mono ?_; rintro e w' ⟨rfl, rfl⟩) | (go_at_call 17; refine (hN _).mono ?_; rintro e wz ⟨rfl, hbz⟩))
      all_goals first
        | (go_wp2_with fail; go_ret; exact ⟨rfl, hb2.drew.trans (hbz.mono hb2.size)⟩)
        | (exfalso; rename_i hne _ _ _; exact hne (by decide))
        | (exfalso; rename_i hne; exact hne (by decide))
        | (exfalso; rename_i hne _; exact hne (by decide))
        | (exfalso; rename_i hne _ _; exact hne (by decide))
    · have hG : ∀ w, Calls Try.prog 16 #[.int .u8 3] w fun e w' => e = .returned (.tuple #[.int .u16 65530, .bool true]) ∧ w = w' := fun w => iqGoes_calls 3 w
      have hB : ∀ w, Calls Try.prog 14 #[.int .u8 3] w fun e w' => e = .returned (.int .i64 (2)) ∧ w = w' := fun w => iqBit_calls 3 w
      have hN : ∀ w, Calls Try.prog 17 #[.int .u8 3] w fun e w' => e = .returned (.string { data := #[116, 105, 109, 101, 114] }) ∧ Below w.heap.size w w' := fun w => iqName_calls 3 w (by omega)
      go_enter Try.func5, Try.ntmps5
      (go_wp2_with fail; refine Cl.m (live11_calls _) ?_; intro w1 hb1)
      (go_wp2_with fail; refine Cl.p (hG _) ?_)
      have hN2 : Blk ((w1.alloc (.cells #[.string { data := #[] }, .string { data := #[114, 101, 115, 101, 116] }, .string { data := #[110, 109, 105] }, .string { data := #[116, 105, 109, 101, 114] }, .string { data := #[105, 114, 113, 49] }, .string { data := #[105, 114, 113, 50] }] 41)).alloc (.cells #[.int .i64 (-1), .int .i64 (-1), .int .i64 (-1), .int .i64 2, .int .i64 1, .int .i64 0] 42)) w1.heap.size 41 #[.string { data := #[] }, .string { data := #[114, 101, 115, 101, 116] }, .string { data := #[110, 109, 105] }, .string { data := #[116, 105, 109, 101, 114] }, .string { data := #[105, 114, 113, 49] }, .string { data := #[105, 114, 113, 50] }] := (Blk.new _ _ _).alloc _
      have hB2 : Blk ((w1.alloc (.cells #[.string { data := #[] }, .string { data := #[114, 101, 115, 101, 116] }, .string { data := #[110, 109, 105] }, .string { data := #[116, 105, 109, 101, 114] }, .string { data := #[105, 114, 113, 49] }, .string { data := #[105, 114, 113, 50] }] 41)).alloc (.cells #[.int .i64 (-1), .int .i64 (-1), .int .i64 (-1), .int .i64 2, .int .i64 1, .int .i64 0] 42)) (w1.heap.size + 1) 42 #[.int .i64 (-1), .int .i64 (-1), .int .i64 (-1), .int .i64 2, .int .i64 1, .int .i64 0] := Blk.newAt (by simp)
      have hb2 : Below w.heap.size w ((w1.alloc (.cells #[.string { data := #[] }, .string { data := #[114, 101, 115, 101, 116] }, .string { data := #[110, 109, 105] }, .string { data := #[116, 105, 109, 101, 114] }, .string { data := #[105, 114, 113, 49] }, .string { data := #[105, 114, 113, 50] }] 41)).alloc (.cells #[.int .i64 (-1), .int .i64 (-1), .int .i64 (-1), .int .i64 2, .int .i64 1, .int .i64 0] 42)) := by (repeat (first | exact Below.refl _ _ | assumption | refine Below.drew ?_ | refine Bl.alloc ?_ _ | refine below_drewN ?_ _ | refine Bl.chain ?_ (by assumption) (Nat.le_refl _)))
      go_wp2_with fail
      generalize (w1.alloc (.cells #[.string { data := #[] }, .string { data := #[114, 101, 115, 101, 116] }, .string { data := #[110, 109, 105] }, .string { data := #[116, 105, 109, 101, 114] }, .string { data := #[105, 114, 113, 49] }, .string { data := #[105, 114, 113, 50] }] 41)).alloc (.cells #[.int .i64 (-1), .int .i64 (-1), .int .i64 (-1), .int .i64 2, .int .i64 1, .int .i64 0] 42) = w2 at *
      have n1 := hN2.lt
      have n2 := hB2.lt
      generalize w1.heap.size = G at *
      clear hb1
      go_region_held3 (fun w' => (w'.cell? ⟨G, 3, none⟩ = some (.string { data := #[116, 105, 109, 101, 114] }) ∧ w'.cell? ⟨G + 1, 3, none⟩ = some (.int .i64 (2))) ∧ Below w.heap.size w w') (first | exact ⟨⟨hN2.drew.cell 3, hB2.drew.cell 3⟩, hb2.drew⟩ | exact ⟨⟨(Blk.below hN2.drew hbz n1).cell 3, (Blk.below hB2.drew hbz n2).cell 3⟩, hb2.drew.trans (hbz.mono hb2.size)⟩) (first | (go_at_call 14; refine (hB _).mono ?_; rintro e w' ⟨rfl, rfl⟩) | (go_at_call 17; refine (hN _).mono ?_; rintro e wz ⟨rfl, hbz⟩))
      all_goals first
        | (go_wp2_with fail; go_ret; exact ⟨rfl, hb2.drew.trans (hbz.mono hb2.size)⟩)
        | (exfalso; rename_i hne _ _ _; exact hne (by decide))
        | (exfalso; rename_i hne; exact hne (by decide))
        | (exfalso; rename_i hne _; exact hne (by decide))
        | (exfalso; rename_i hne _ _; exact hne (by decide))
    · have hG : ∀ w, Calls Try.prog 16 #[.int .u8 4] w fun e w' => e = .returned (.tuple #[.int .u16 65528, .bool true]) ∧ w = w' := fun w => iqGoes_calls 4 w
      have hB : ∀ w, Calls Try.prog 14 #[.int .u8 4] w fun e w' => e = .returned (.int .i64 (1)) ∧ w = w' := fun w => iqBit_calls 4 w
      have hN : ∀ w, Calls Try.prog 17 #[.int .u8 4] w fun e w' => e = .returned (.string { data := #[105, 114, 113, 49] }) ∧ Below w.heap.size w w' := fun w => iqName_calls 4 w (by omega)
      go_enter Try.func5, Try.ntmps5
      (go_wp2_with fail; refine Cl.m (live11_calls _) ?_; intro w1 hb1)
      (go_wp2_with fail; refine Cl.p (hG _) ?_)
      have hN2 : Blk ((w1.alloc (.cells #[.string { data := #[] }, .string { data := #[114, 101, 115, 101, 116] }, .string { data := #[110, 109, 105] }, .string { data := #[116, 105, 109, 101, 114] }, .string { data := #[105, 114, 113, 49] }, .string { data := #[105, 114, 113, 50] }] 41)).alloc (.cells #[.int .i64 (-1), .int .i64 (-1), .int .i64 (-1), .int .i64 2, .int .i64 1, .int .i64 0] 42)) w1.heap.size 41 #[.string { data := #[] }, .string { data := #[114, 101, 115, 101, 116] }, .string { data := #[110, 109, 105] }, .string { data := #[116, 105, 109, 101, 114] }, .string { data := #[105, 114, 113, 49] }, .string { data := #[105, 114, 113, 50] }] := (Blk.new _ _ _).alloc _
      have hB2 : Blk ((w1.alloc (.cells #[.string { data := #[] }, .string { data := #[114, 101, 115, 101, 116] }, .string { data := #[110, 109, 105] }, .string { data := #[116, 105, 109, 101, 114] }, .string { data := #[105, 114, 113, 49] }, .string { data := #[105, 114, 113, 50] }] 41)).alloc (.cells #[.int .i64 (-1), .int .i64 (-1), .int .i64 (-1), .int .i64 2, .int .i64 1, .int .i64 0] 42)) (w1.heap.size + 1) 42 #[.int .i64 (-1), .int .i64 (-1), .int .i64 (-1), .int .i64 2, .int .i64 1, .int .i64 0] := Blk.newAt (by simp)
      have hb2 : Below w.heap.size w ((w1.alloc (.cells #[.string { data := #[] }, .string { data := #[114, 101, 115, 101, 116] }, .string { data := #[110, 109, 105] }, .string { data := #[116, 105, 109, 101, 114] }, .string { data := #[105, 114, 113, 49] }, .string { data := #[105, 114, 113, 50] }] 41)).alloc (.cells #[.int .i64 (-1), .int .i64 (-1), .int .i64 (-1), .int .i64 2, .int .i64 1, .int .i64 0] 42)) := by (repeat (first | exact Below.refl _ _ | assumption | refine Below.drew ?_ | refine Bl.alloc ?_ _ | refine below_drewN ?_ _ | refine Bl.chain ?_ (by assumption) (Nat.le_refl _)))
      go_wp2_with fail
      generalize (w1.alloc (.cells #[.string { data := #[] }, .string { data := #[114, 101, 115, 101, 116] }, .string { data := #[110, 109, 105] }, .string { data := #[116, 105, 109, 101, 114] }, .string { data := #[105, 114, 113, 49] }, .string { data := #[105, 114, 113, 50] }] 41)).alloc (.cells #[.int .i64 (-1), .int .i64 (-1), .int .i64 (-1), .int .i64 2, .int .i64 1, .int .i64 0] 42) = w2 at *
      have n1 := hN2.lt
      have n2 := hB2.lt
      generalize w1.heap.size = G at *
      clear hb1
      go_region_held3 (fun w' => (w'.cell? ⟨G, 4, none⟩ = some (.string { data := #[105, 114, 113, 49] }) ∧ w'.cell? ⟨G + 1, 4, none⟩ = some (.int .i64 (1))) ∧ Below w.heap.size w w') (first | exact ⟨⟨hN2.drew.cell 4, hB2.drew.cell 4⟩, hb2.drew⟩ | exact ⟨⟨(Blk.below hN2.drew hbz n1).cell 4, (Blk.below hB2.drew hbz n2).cell 4⟩, hb2.drew.trans (hbz.mono hb2.size)⟩) (first | (go_at_call 14; refine (hB _).mono ?_; rintro e w' ⟨rfl, rfl⟩) | (go_at_call 17; refine (hN _).mono ?_; rintro e wz ⟨rfl, hbz⟩))
      all_goals first
        | (go_wp2_with fail; go_ret; exact ⟨rfl, hb2.drew.trans (hbz.mono hb2.size)⟩)
        | (exfalso; rename_i hne _ _ _; exact hne (by decide))
        | (exfalso; rename_i hne; exact hne (by decide))
        | (exfalso; rename_i hne _; exact hne (by decide))
        | (exfalso; rename_i hne _ _; exact hne (by decide))
    · have hG : ∀ w, Calls Try.prog 16 #[.int .u8 5] w fun e w' => e = .returned (.tuple #[.int .u16 65526, .bool true]) ∧ w = w' := fun w => iqGoes_calls 5 w
      have hB : ∀ w, Calls Try.prog 14 #[.int .u8 5] w fun e w' => e = .returned (.int .i64 (0)) ∧ w = w' := fun w => iqBit_calls 5 w
      have hN : ∀ w, Calls Try.prog 17 #[.int .u8 5] w fun e w' => e = .returned (.string { data := #[105, 114, 113, 50] }) ∧ Below w.heap.size w w' := fun w => iqName_calls 5 w (by omega)
      go_enter Try.func5, Try.ntmps5
      (go_wp2_with fail; refine Cl.m (live11_calls _) ?_; intro w1 hb1)
      (go_wp2_with fail; refine Cl.p (hG _) ?_)
      have hN2 : Blk ((w1.alloc (.cells #[.string { data := #[] }, .string { data := #[114, 101, 115, 101, 116] }, .string { data := #[110, 109, 105] }, .string { data := #[116, 105, 109, 101, 114] }, .string { data := #[105, 114, 113, 49] }, .string { data := #[105, 114, 113, 50] }] 41)).alloc (.cells #[.int .i64 (-1), .int .i64 (-1), .int .i64 (-1), .int .i64 2, .int .i64 1, .int .i64 0] 42)) w1.heap.size 41 #[.string { data := #[] }, .string { data := #[114, 101, 115, 101, 116] }, .string { data := #[110, 109, 105] }, .string { data := #[116, 105, 109, 101, 114] }, .string { data := #[105, 114, 113, 49] }, .string { data := #[105, 114, 113, 50] }] := (Blk.new _ _ _).alloc _
      have hB2 : Blk ((w1.alloc (.cells #[.string { data := #[] }, .string { data := #[114, 101, 115, 101, 116] }, .string { data := #[110, 109, 105] }, .string { data := #[116, 105, 109, 101, 114] }, .string { data := #[105, 114, 113, 49] }, .string { data := #[105, 114, 113, 50] }] 41)).alloc (.cells #[.int .i64 (-1), .int .i64 (-1), .int .i64 (-1), .int .i64 2, .int .i64 1, .int .i64 0] 42)) (w1.heap.size + 1) 42 #[.int .i64 (-1), .int .i64 (-1), .int .i64 (-1), .int .i64 2, .int .i64 1, .int .i64 0] := Blk.newAt (by simp)
      have hb2 : Below w.heap.size w ((w1.alloc (.cells #[.string { data := #[] }, .string { data := #[114, 101, 115, 101, 116] }, .string { data := #[110, 109, 105] }, .string { data := #[116, 105, 109, 101, 114] }, .string { data := #[105, 114, 113, 49] }, .string { data := #[105, 114, 113, 50] }] 41)).alloc (.cells #[.int .i64 (-1), .int .i64 (-1), .int .i64 (-1), .int .i64 2, .int .i64 1, .int .i64 0] 42)) := by (repeat (first | exact Below.refl _ _ | assumption | refine Below.drew ?_ | refine Bl.alloc ?_ _ | refine below_drewN ?_ _ | refine Bl.chain ?_ (by assumption) (Nat.le_refl _)))
      go_wp2_with fail
      generalize (w1.alloc (.cells #[.string { data := #[] }, .string { data := #[114, 101, 115, 101, 116] }, .string { data := #[110, 109, 105] }, .string { data := #[116, 105, 109, 101, 114] }, .string { data := #[105, 114, 113, 49] }, .string { data := #[105, 114, 113, 50] }] 41)).alloc (.cells #[.int .i64 (-1), .int .i64 (-1), .int .i64 (-1), .int .i64 2, .int .i64 1, .int .i64 0] 42) = w2 at *
      have n1 := hN2.lt
      have n2 := hB2.lt
      generalize w1.heap.size = G at *
      clear hb1
      go_region_held3 (fun w' => (w'.cell? ⟨G, 5, none⟩ = some (.string { data := #[105, 114, 113, 50] }) ∧ w'.cell? ⟨G + 1, 5, none⟩ = some (.int .i64 (0))) ∧ Below w.heap.size w w') (first | exact ⟨⟨hN2.drew.cell 5, hB2.drew.cell 5⟩, hb2.drew⟩ | exact ⟨⟨(Blk.below hN2.drew hbz n1).cell 5, (Blk.below hB2.drew hbz n2).cell 5⟩, hb2.drew.trans (hbz.mono hb2.size)⟩) (first | (go_at_call 14; refine (hB _).mono ?_; rintro e w' ⟨rfl, rfl⟩) | (go_at_call 17; refine (hN _).mono ?_; rintro e wz ⟨rfl, hbz⟩))
      all_goals first
        | (go_wp2_with fail; go_ret; exact ⟨rfl, hb2.drew.trans (hbz.mono hb2.size)⟩)
        | (exfalso; rename_i hne _ _ _; exact hne (by decide))
        | (exfalso; rename_i hne; exact hne (by decide))
        | (exfalso; rename_i hne _; exact hne (by decide))
        | (exfalso; rename_i hne _ _; exact hne (by decide))
  · have e1 : goesN k = 0 := if_neg h
    have e2 : (decide (1 ≤ k ∧ k ≤ 5)) = false := by rw [decide_eq_false_iff_not]; exact h
    have e3 : kBit k = -1 := if_pos (by omega)
    have e4 : nameA k = { data := #[] } := by
      by_cases h0 : k = 0
      · subst h0; rfl
      · match k, (show 6 ≤ k by omega) with
        | n + 6, _ => rfl
    have hG := fun w => iqGoes_calls k w
    have hB := fun w => iqBit_calls k w
    have hN := fun w => iqName_calls k w hk
    rw [e1, e2] at hG
    rw [e3] at hB
    rw [e4] at hN
    clear e1 e2 e3 e4
    by_cases h0 : k < 1
    · have i1 : (k : Int) < 1 := by omega
      clear h0 h
      go_enter Try.func5, Try.ntmps5
      (go_wp2_with fail; refine Cl.m (live11_calls _) ?_; intro w1 hb1)
      (go_wp2_with fail; refine Cl.p (hG _) ?_)
      (go_wp2_with fail; refine Cl.p (hB _) ?_)
      (go_wp2_with fail; refine Cl.m (hN _) ?_; intro w2 hb2)
      (go_wp2_with fail; go_ret; exact ⟨rfl, by (repeat (first | exact Below.refl _ _ | assumption | refine Below.drew ?_ | refine Bl.alloc ?_ _ | refine below_drewN ?_ _ | refine Bl.chain ?_ (by assumption) (Nat.le_refl _)))⟩)
    · have i1 : (decide ((k : Int) < 1)) = false := by rw [decide_eq_false_iff_not]; omega
      have i2 : (5 : Int) < (k : Int) := by omega
      clear h0 h
      go_enter Try.func5, Try.ntmps5
      (go_wp2_with fail; refine Cl.m (live11_calls _) ?_; intro w1 hb1)
      (go_wp2_with fail; refine Cl.p (hG _) ?_)
      (go_wp2_with fail; refine Cl.p (hB _) ?_)
      (go_wp2_with fail; refine Cl.m (hN _) ?_; intro w2 hb2)
      (go_wp2_with fail; go_ret; exact ⟨rfl, by (repeat (first | exact Below.refl _ _ | assumption | refine Below.drew ?_ | refine Bl.alloc ?_ _ | refine below_drewN ?_ _ | refine Bl.chain ?_ (by assumption) (Nat.le_refl _)))⟩)
section
open Go.ChangeShapes Go.WideShapes Go.ChangeAt
variable {H : Type} {enc : TypeId × Value → H} {W : World} {base : Nat}
theorem walk_IrqKinds {v0 : Value} {d0 : DataW H} {p0 : List MemPlace}
    (_hsh : W.ShapedOpen Try.prog) (_hsz : (DataW.weightsEach Try.prog [5] [d0]).all (· ≤ reachBytes) = true)
    (hv0 : Value.okWide Try.prog W .any base 5 v0) (hd0 : DataW.Trod enc Try.prog W 0 (fun _ => true) true 5 v0 d0 p0) :
    Calls Try.prog 5 #[v0] W fun e W' => e = .returned (.bool true) ∧ Below W.heap.size W W' := by
  obtain ⟨x0, rfl, h0⟩ := open_u8 Try.underlying5 hv0 hd0
  exact irqKinds_calls x0 W h0
end
end Go.Proofs.Ytichdknfakmjlaa
