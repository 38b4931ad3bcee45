/-
  gannetlaw31.alike.
-/
import Derived.Test.YticdlgbpbfcmaaaBst3
import Derived.Test.YticdlgbpbfcmaaaBst4
namespace Go.Proofs.Yticdlgbpbfcmaaa
open Go.RowKit

set_option maxRecDepth 100000 in
set_option maxHeartbeats 4000000 in
theorem alikeX_calls (g h k f t l n ph dt a A D : Nat) (d : Bool) (w : World) (hl : l < 65536) (hn : n ≤ cnt l) (hph : ph < 6) (ha : a = 6 * n + ph)
    (hN1 : ∀ W, BB W g k f t (cnt l) n ph dt → Calls Try.prog 12 #[.pointer (some ⟨g, 0, none⟩)] W fun e w' => e = .returned (.tuple #[.int .u8 (A : Int), .int .u16 (D : Int)]) ∧ Below W.heap.size W w')
    (hN2 : ∀ W, VB W h k f t l a dt → Calls Try.prog 21 #[.pointer (some ⟨h, 0, none⟩)] W fun e w' => e = .returned (.tuple #[.int .u8 (A : Int), .int .u16 (D : Int)]) ∧ Below W.heap.size W w')
    (hD1 : ∀ W, BB W g k f t (cnt l) n ph dt → Calls Try.prog 11 #[.pointer (some ⟨g, 0, none⟩)] W fun e w' => e = .returned (.bool d) ∧ Below W.heap.size W w')
    (hD2 : ∀ W, VB W h k f t l a dt → Calls Try.prog 23 #[.pointer (some ⟨h, 0, none⟩)] W fun e w' => e = .returned (.bool d) ∧ Below W.heap.size W w')
    (hB : BB w g k f t (cnt l) n ph dt) (hV : VB w h k f t l a dt) :
    Calls Try.prog 7 #[.pointer (some ⟨g, 0, none⟩), .pointer (some ⟨h, 0, none⟩)] w fun e w' => e = .returned (.bool true) ∧ Below w.heap.size w w' := by
  have hb := cnt_b l hl
  have hC := fun W => rCount_calls l W hl
  have hL := fun W hB => bsLeft_calls g k f t (cnt l) n ph dt W hb.2 hn hB
  have v1 : (a : Int) / 6 = (n : Int) := by omega
  have v2 : (a : Int) % 6 = (ph : Int) := by omega
  have ha2 : a ≤ 393221 := by omega
  generalize cnt l = N at *
  have e1 : ((A : Int) == (A : Int)) = true := beq_self_eq_true _
  have e2 : ((D : Int) == (D : Int)) = true := beq_self_eq_true _
  have e3 : (d == d) = true := beq_self_eq_true _
  have e4 : ((dt : Int) == (dt : Int)) = true := beq_self_eq_true _
  have e5 : (((N - n : Nat) : Int) == (N : Int) - (n : Int)) = true := by rw [beq_iff_eq]; omega
  have e6 : ((ph : Int) == (ph : Int)) = true := beq_self_eq_true _
  clear ha
  go_enter Try.func7, Try.ntmps7
  go_wp2_with fail
  refine Cl.m (hN1 _ hB) ?_
  intro w1 hb1
  have hV1 := hV.below hb1 hV.lt
  have hB1 := hB.below hb1 hB.lt
  go_wp2_with fail
  refine Cl.m (hN2 _ hV1) ?_
  intro w2 hb2
  have hV2 : VB w2 h k f t l a dt := Blk.below hV1 hb2 hV1.lt
  have hB2 : BB w2 g k f t N n ph dt := Blk.below hB1 hb2 hB1.lt
  have hb02 : Below w.heap.size w w2 := by (repeat (first | exact Below.refl _ _ | assumption | refine Below.drew ?_ | refine Bl.alloc ?_ _ | refine below_drewN ?_ _ | refine Bl.chain ?_ (by assumption) (Nat.le_refl _)))
  have c3 : w2.cell? ⟨h, 3, none⟩ = some (.int .u16 (l : Int)) := hV2.cell 3
  have c4 : w2.cell? ⟨h, 4, none⟩ = some (.int .i64 (a : Int)) := hV2.cell 4
  go_wp2_with fail
  go_quiet ((go_at_call 22; first | exact quiet_left (hC _) | exact quiet_add_left (hC _)))
  have hV3 : VB (w2.drewN nq) h k f t l a dt := Blk.below hV2 (below_drewN (Below.refl w2.heap.size w2) nq) hV2.lt
  have hB3 : BB (w2.drewN nq) g k f t N n ph dt := Blk.below hB2 (below_drewN (Below.refl w2.heap.size w2) nq) hB2.lt
  have hb03 : Below w.heap.size w (w2.drewN nq) := below_drewN hb02 nq
  generalize w2.drewN nq = w3 at *
  have d4 : w3.cell? ⟨h, 4, none⟩ = some (.int .i64 (a : Int)) := hV3.cell 4
  have q5 : w3.drew.cell? ⟨h, 5, none⟩ = some (.int .u8 (dt : Int)) := hV3.cell 5
  have hB3d : BB w3.drew g k f t N n ph dt := hB3
  have hV3d : VB w3.drew h k f t l a dt := hV3
  go_wp2_with fail
  go_region_held3 (fun w' => w'.cell? ⟨h, 5, none⟩ = some (.int .u8 (dt : Int))) (first | exact r6 | exact r5 | exact r4 | exact q5)
    (first
    | (go_at_call 11; refine Cl.m (hD1 w3.drew hB3d) ?_; intro w4 hb4; have hB4 : BB w4 g k f t N n ph dt := Blk.below hB3d hb4 hB3d.lt; have hV4 : VB w4 h k f t l a dt := Blk.below hV3d hb4 hV3d.lt; have r4 : w4.cell? ⟨h, 5, none⟩ = some (.int .u8 (dt : Int)) := hV4.cell 5)
    | (go_at_call 23; refine Cl.m (hD2 w4 hV4) ?_; intro w5 hb5; have hB5 : BB w5 g k f t N n ph dt := Blk.below hB4 hb5 hB4.lt; have hV5 : VB w5 h k f t l a dt := Blk.below hV4 hb5 hV4.lt; have r5 : w5.cell? ⟨h, 5, none⟩ = some (.int .u8 (dt : Int)) := hV5.cell 5)
    | (go_at_call 13; refine Cl.p (bsData_calls g k f t N n ph dt w5 hB5) ?_)
    | (go_at_call 17; refine Cl.m (hL w5 hB5) ?_; intro w6 hb6; have hB6 : BB w6 g k f t N n ph dt := Blk.below hB5 hb6 hB5.lt; have hV6 : VB w6 h k f t l a dt := Blk.below hV5 hb6 hV5.lt; have r6 : w6.cell? ⟨h, 5, none⟩ = some (.int .u8 (dt : Int)) := hV6.cell 5)
    | (go_at_call 18; refine Cl.p (bsPhase_calls g k f t N n ph dt w6 hB6) ?_))
  all_goals
    go_wp2_with fail
    go_ret
    have z3 : w3.drew.heap.size = w3.heap.size := rfl
    have s3 := hb03.size
    have s4 := hb4.size
    have s5 := hb5.size
    exact ⟨rfl, (((Below.drew hb03).trans (hb4.mono (by omega))).trans (hb5.mono (by omega))).trans (hb6.mono (by omega))⟩
theorem alike_calls (g h k f t l n ph dt a : Nat) (w : World) (hk : k < 5) (hf : f < 65536) (ht : t < 65536) (hl : l < 65536) (hn : (n < cnt l ∧ ph < 6) ∨ (n = cnt l ∧ ph = 0)) (ha : a = 6 * n + ph)
    (hB : BB w g k f t (cnt l) n ph dt) (hV : VB w h k f t l a dt) :
    Calls Try.prog 7 #[.pointer (some ⟨g, 0, none⟩), .pointer (some ⟨h, 0, none⟩)] w fun e w' => e = .returned (.bool true) ∧ Below w.heap.size w w' := by
  have hb := cnt_b l hl
  rcases hn with ⟨h1, h2⟩ | ⟨h1, h2⟩
  · refine alikeX_calls g h k f t l n ph dt a (accV ph) (adV k f t n ph) false w hl (by omega) h2 ha (fun W hB => bsNext_calls g k f t (cnt l) n ph dt W hb.2 h1 h2 hk hf ht hB) (fun W hV => qNext_calls h k f t l a n ph dt W hk hf ht hl ha h2 h1 hV) (fun W hB => ?_) (fun W hV => ?_) hB hV
    · have := bsDone_calls g k f t (cnt l) n ph dt W hb.2 (by omega) hB
      rwa [decide_eq_false (by omega)] at this
    · have := qDone_calls h k f t l a dt W hl (by omega) hV
      rwa [decide_eq_false (by omega)] at this
  · subst h2
    subst h1
    refine alikeX_calls g h k f t l (cnt l) 0 dt a 2 0 true w hl (Nat.le_refl _) (by omega) ha (fun W hB => bsNextD_calls g k f t (cnt l) 0 dt W hb.2 hB) (fun W hV => qNextD_calls h k f t l a dt W hl (by omega) (by omega) hV) (fun W hB => ?_) (fun W hV => ?_) hB hV
    · have := bsDone_calls g k f t (cnt l) (cnt l) 0 dt W hb.2 (Nat.le_refl _) hB
      rwa [decide_eq_true rfl] at this
    · have := qDone_calls h k f t l a dt W hl (by omega) hV
      rwa [decide_eq_true (by omega)] at this
end Go.Proofs.Yticdlgbpbfcmaaa
