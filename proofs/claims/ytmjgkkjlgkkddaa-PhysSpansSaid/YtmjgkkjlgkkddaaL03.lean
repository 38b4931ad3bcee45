/-
  gannetlaw03: live, PhysParts, PhysTells, PhysTexts.
-/
import Derived.Test.YtmjgkkjlgkkddaaPtext
namespace Go.Proofs.Ytmjgkkjlgkkddaa
open Go.RowKit Pl

theorem live03_calls (w : World) : Calls Try.prog 7 #[] w fun e w' => e = .returned (.bool true) ∧ Below w.heap.size w w' := by
  have l1 : adr 255 3072 = 2092032 := by decide
  have l2 : ofP (ByteArray.mk #[70, 70, 58, 48, 67, 48, 48]).toList = (2092032, 0) := by rw [ByteArray.toList_mk]; decide
  have l3 : whr 2092032 = 6 := by decide
  have l4 : tx 2092032 = [70, 70, 58, 48, 67, 48, 48] := by decide
  have l5 : exO (whr 2088960) = true := by decide
  have l6 : rgO (whr 2092033) (2092033 % 8192) = 1 := by decide
  have l7 : bnk 2092032 = 255 := by decide
  have l8 : 2092032 % 8192 = 3072 := by decide
  go_enter Try.func7, Try.ntmps7
  (go_wp2_with fail; refine Cl.p (phAddr_calls 255 3072 _ (by omega) (by omega)) ?_)
  rw [l1]
  go_wp2_with fail
  refine (phSpan_calls 1 _ (by omega)).mono ?_
  rintro e w1 ⟨v, rfl, hown, hb1⟩
  rw [rowsL_all.2.1] at hown
  obtain ⟨g, c, rfl, hgb, hgl⟩ := World.ownsRow.form hown (by decide)
  go_wp2_with fail
  refine Cl.m (phOf_calls _ _ (by decide)) ?_
  intro w2 hb2
  rw [l2]
  unfold fhV
  (go_wp2_with fail; refine Cl.m (phWhere_calls 2092032 _ (by omega)) ?_; intro w3 hb3)
  rw [l3]
  (go_wp2_with fail; refine Cl.m (phText_calls 2092032 _ (by omega)) ?_; intro w4 hb4)
  rw [l4]
  have ho4 := own_below (own_below (own_below hown hb2 (Nat.le_refl _)) hb3 (Nat.le_refl _)) hb4 (Nat.le_refl _)
  have hc0 : w4.cell? ⟨g, 0, none⟩ = some (.int .u32 2031616) := ho4.cellAt 0 (by decide)
  have hc1 : w4.cell? ⟨g, 1, none⟩ = some (.int .u32 32768) := ho4.cellAt 1 (by decide)
  have heq2 : ∀ W, (Op.equalIn 10000 38 (.agg #[.int .u32 2031616, .int .u32 32768]) (.agg #[.int .u32 2031616, .int .u32 32768])).run Try.prog W = .ok true W := fun W => by kernel_rfl
  (go_wp2_with fail; refine Cl.m (phExtra_calls 2088960 _ (by omega)) ?_; intro w5 hb5)
  rw [l5]
  (go_wp2_with fail; refine Cl.m (phReg_calls 2092033 _ (by omega)) ?_; intro w6 hb6)
  rw [l6]
  (go_wp2_with fail; refine Cl.p (phBank_calls 2092032 _ (by omega)) ?_)
  rw [l7]
  (go_wp2_with fail; refine Cl.p (phOff_calls 2092032 _ (by omega)) ?_)
  (go_wp2_with fail; go_ret; exact ⟨rfl, by (repeat (first | exact Below.refl _ _ | assumption | refine Below.drew ?_ | refine Bl.alloc ?_ _ | refine below_drewN ?_ _ | refine Bl.chain ?_ (by assumption) (Nat.le_refl _)))⟩)

theorem physParts_calls (a b o : Nat) (w : World) (ha : a < 4294967296) (hb : b < 256) (ho : o < 65536) :
    Calls Try.prog 3 #[.int .u32 (a : Int), .int .u8 (b : Int), .int .u16 (o : Int)] w fun e w' => e = .returned (.bool true) ∧ Below w.heap.size w w' := by
  have hB := bnk_lt a
  have ha1 : adr b o < 4294967296 := by unfold adr; omega
  have e1 : ((adr b o : Nat) : Int) = (b : Int) * 8192 + (o : Int) % 8192 := by unfold adr; omega
  have e2 := adr_back a
  have e3 := bnk_adr b o hb
  have e4 := off_adr b o
  have hm : a % 8192 < 65536 := by omega
  have hoff := phOff_calls a
  have hoff2 := phOff_calls (adr b o)
  have hr2 := r03Off_calls a
  rw [e4] at hoff2
  have E1 := hide e1
  have E2 := hide e2
  have E3 := hide e3
  clear e1 e2 e3 e4
  go_enter Try.func3, Try.ntmps3
  (go_wp2_with fail; refine Cl.m (live03_calls _) ?_; intro w1 hb1)
  (go_wp2_with fail; refine Cl.p (phAddr_calls b o _ hb ho) ?_)
  (go_wp2_with fail; refine Cl.p (phBank_calls a _ ha) ?_)
  (go_wp2_with fail; refine Cl.p (r03Bank_calls a _ ha) ?_)
  (go_wp2_with fail; refine Cl.p (hoff _ ha) ?_)
  (go_wp2_with fail; refine Cl.p (hr2 _ ha) ?_)
  rw [E1.out]
  (go_wp2_with fail; refine Cl.p (phBank_calls a _ ha) ?_)
  (go_wp2_with fail; refine Cl.p (hoff _ ha) ?_)
  (go_wp2_with fail; refine Cl.p (phAddr_calls (bnk a) (a % 8192) _ hB hm) ?_)
  rw [E2.out]
  go_wp2_with fail
  rw [← E1.out]
  refine Cl.p (phBank_calls (adr b o) _ ha1) ?_
  rw [E3.out]
  go_wp2_with fail
  refine Cl.p (hoff2 _ ha1) ?_
  (go_wp2_with fail; go_ret; exact ⟨rfl, by (repeat (first | exact Below.refl _ _ | assumption | refine Below.drew ?_ | refine Bl.alloc ?_ _ | refine below_drewN ?_ _ | refine Bl.chain ?_ (by assumption) (Nat.le_refl _)))⟩)
theorem physTells_calls (a : Nat) (w : World) (ha : a < 4294967296) :
    Calls Try.prog 4 #[.int .u32 (a : Int)] w fun e w' => e = .returned (.bool true) ∧ Below w.heap.size w w' := by
  go_enter Try.func4, Try.ntmps4
  (go_wp2_with fail; refine Cl.m (live03_calls _) ?_; intro w1 hb1)
  (go_wp2_with fail; refine Cl.m (phWhere_calls a _ ha) ?_; intro w2 hb2)
  (go_wp2_with fail; refine Cl.m (r03Where_calls a _ ha) ?_; intro w3 hb3)
  (go_wp2_with fail; refine Cl.m (phExtra_calls a _ ha) ?_; intro w4 hb4)
  (go_wp2_with fail; refine Cl.m (r03Extra_calls a _ ha) ?_; intro w5 hb5)
  (go_wp2_with fail; refine Cl.m (phReg_calls a _ ha) ?_; intro w6 hb6)
  (go_wp2_with fail; refine Cl.m (r03Reg_calls a _ ha) ?_; intro w7 hb7)
  (go_wp2_with fail; go_ret; exact ⟨rfl, by (repeat (first | exact Below.refl _ _ | assumption | refine Below.drew ?_ | refine Bl.alloc ?_ _ | refine below_drewN ?_ _ | refine Bl.chain ?_ (by assumption) (Nat.le_refl _)))⟩)
set_option maxHeartbeats 4000000 in
theorem physTexts_calls (a : Nat) (s : ByteArray) (w : World) (ha : a < 4294967296) (hs : s.size ≤ maxLen) :
    Calls Try.prog 5 #[.int .u32 (a : Int), .string s] w fun e w' => e = .returned (.bool true) ∧ Below w.heap.size w w' := by
  have e1 : ofP (ByteArray.mk (tx a).toArray).toList = (a % 2097152, 0) := by rw [ByteArray.toList_mk]; exact of_tx a
  have hz : (ByteArray.mk (tx a).toArray).size ≤ maxLen := by
    show (tx a).toArray.size ≤ maxLen
    simp [tx_len, maxLen]
  have hc := of_snd s.toList
  have hl := of_lt s.toList
  have ht := fun c => tx_of s.toList c
  have h1 := phOf_calls s
  have h2 := r03Of_calls s
  have h3 := phOf_calls (ByteArray.mk (tx a).toArray)
  rw [e1] at h3
  clear e1
  obtain ⟨⟨c, f⟩, hcf⟩ : ∃ r, ofP s.toList = r := ⟨_, rfl⟩
  rw [hcf] at hc hl ht h1 h2
  unfold fhV at h1 h2 h3
  dsimp only at hc hl h1 h2 h3
  clear hcf
  have hc32 : c < 4294967296 := by omega
  rcases hc with rfl | rfl
  · have hs' : s = ByteArray.mk (tx c).toArray := by
      have := ht c rfl
      apply ByteArray.ext
      rw [this]
      simp [ByteArray.toList_eq]
    have h5 := phText_calls c
    clear ht
    generalize tx c = t at *
    subst hs'
    go_enter Try.func5, Try.ntmps5
    (go_wp2_with fail; refine Cl.m (live03_calls _) ?_; intro w1 hb1)
    (go_wp2_with fail; refine Cl.m (phText_calls a _ ha) ?_; intro w2 hb2)
    go_wp2_with fail
    refine Cl.m (h3 _ hz) ?_
    intro w3 hb3
    go_wp2_with fail
    refine Cl.m (h1 _ hs) ?_
    intro w4 hb4
    go_wp2_with fail
    refine Cl.m (h2 _ hs) ?_
    intro w5 hb5
    (go_wp2_with fail; refine Cl.p (r03Text_calls a _ ha) ?_)
    (go_wp2_with fail; refine Cl.m (h5 _ hc32) ?_; intro w6 hb6)
    (go_wp2_with fail; go_ret; exact ⟨rfl, by (repeat (first | exact Below.refl _ _ | assumption | refine Below.drew ?_ | refine Bl.alloc ?_ _ | refine below_drewN ?_ _ | refine Bl.chain ?_ (by assumption) (Nat.le_refl _)))⟩)
  · clear ht
    go_enter Try.func5, Try.ntmps5
    (go_wp2_with fail; refine Cl.m (live03_calls _) ?_; intro w1 hb1)
    (go_wp2_with fail; refine Cl.m (phText_calls a _ ha) ?_; intro w2 hb2)
    go_wp2_with fail
    refine Cl.m (h3 _ hz) ?_
    intro w3 hb3
    go_wp2_with fail
    refine Cl.m (h1 _ hs) ?_
    intro w4 hb4
    go_wp2_with fail
    refine Cl.m (h2 _ hs) ?_
    intro w5 hb5
    (go_wp2_with fail; refine Cl.p (r03Text_calls a _ ha) ?_)
    (go_wp2_with fail; go_ret; exact ⟨rfl, by (repeat (first | exact Below.refl _ _ | assumption | refine Below.drew ?_ | refine Bl.alloc ?_ _ | refine below_drewN ?_ _ | refine Bl.chain ?_ (by assumption) (Nat.le_refl _)))⟩)
section
open Go.ChangeShapes Go.WideShapes Go.ChangeAt
variable {H : Type} {enc : TypeId × Value → H} {W : World} {base : Nat}
theorem walk_PhysParts {v0 v1 v2 : Value} {d0 d1 d2 : DataW H} {p0 p1 p2 : List MemPlace}
    (_hsh : W.ShapedOpen Try.prog) (_hsz : (DataW.weightsEach Try.prog [22, 5, 23] [d0, d1, d2]).all (· ≤ reachBytes) = true)
    (hv0 : Value.okWide Try.prog W .any base 22 v0) (hd0 : DataW.Trod enc Try.prog W 0 (fun _ => true) true 22 v0 d0 p0) (hv1 : Value.okWide Try.prog W .any base 5 v1) (hd1 : DataW.Trod enc Try.prog W 0 (fun _ => true) true 5 v1 d1 p1) (hv2 : Value.okWide Try.prog W .any base 23 v2) (hd2 : DataW.Trod enc Try.prog W 0 (fun _ => true) true 23 v2 d2 p2) :
    Calls Try.prog 3 #[v0, v1, v2] W fun e W' => e = .returned (.bool true) ∧ Below W.heap.size W W' := by
  obtain ⟨x0, rfl, h0⟩ := open_u32 Try.underlying22 hv0 hd0
  obtain ⟨x1, rfl, h1⟩ := open_u8 Try.underlying5 hv1 hd1
  obtain ⟨x2, rfl, h2⟩ := open_u16 Try.underlying23 hv2 hd2
  exact physParts_calls x0 x1 x2 W h0 h1 h2
theorem walk_PhysTells {v0 : Value} {d0 : DataW H} {p0 : List MemPlace}
    (_hsh : W.ShapedOpen Try.prog) (_hsz : (DataW.weightsEach Try.prog [22] [d0]).all (· ≤ reachBytes) = true)
    (hv0 : Value.okWide Try.prog W .any base 22 v0) (hd0 : DataW.Trod enc Try.prog W 0 (fun _ => true) true 22 v0 d0 p0) :
    Calls Try.prog 4 #[v0] W fun e W' => e = .returned (.bool true) ∧ Below W.heap.size W W' := by
  obtain ⟨x0, rfl, h0⟩ := open_u32 Try.underlying22 hv0 hd0
  exact physTells_calls x0 W h0
theorem walk_PhysTexts {v0 v1 : Value} {d0 d1 : DataW H} {p0 p1 : List MemPlace}
    (_hsh : W.ShapedOpen Try.prog) (_hsz : (DataW.weightsEach Try.prog [22, 9] [d0, d1]).all (· ≤ reachBytes) = true)
    (hv0 : Value.okWide Try.prog W .any base 22 v0) (hd0 : DataW.Trod enc Try.prog W 0 (fun _ => true) true 22 v0 d0 p0) (hv1 : Value.okWide Try.prog W .any base 9 v1) (hd1 : DataW.Trod enc Try.prog W 0 (fun _ => true) true 9 v1 d1 p1) :
    Calls Try.prog 5 #[v0, v1] W fun e W' => e = .returned (.bool true) ∧ Below W.heap.size W W' := by
  obtain ⟨x0, rfl, h0⟩ := open_u32 Try.underlying22 hv0 hd0
  obtain ⟨x1, rfl, h1⟩ := open_str Try.underlying9 hv1 hd1
  exact physTexts_calls x0 x1 W h0 h1
end
end Go.Proofs.Ytmjgkkjlgkkddaa
