/-
  Both blocks a cycle further, at the end or not; live.
-/
import Derived.Test.YticdlgbpbfcmaaaBst5
import Derived.Test.YticdlgbpbfcmaaaBst6
namespace Go.Proofs.Yticdlgbpbfcmaaa
open Go.RowKit

def Inv31 (l q ph : Nat) : Prop := (q < cnt l ∧ ph < 6) ∨ (q = cnt l ∧ ph = 0)
def nQ (l q ph : Nat) : Nat := if q = cnt l then q else if ph = 5 then q + 1 else q
def nP (l q ph : Nat) : Nat := if q = cnt l then ph else if ph = 5 then 0 else ph + 1
def nD (l q ph v dt : Nat) : Nat := if q = cnt l then dt else stD ph v dt
theorem Inv31.zero (l : Nat) (h : l < 65536) : Inv31 l 0 0 := Or.inl ⟨by have := cnt_b l h; omega, by omega⟩
theorem Inv31.next {l q ph : Nat} (h : Inv31 l q ph) : Inv31 l (nQ l q ph) (nP l q ph) := by
  unfold Inv31 nQ nP at *
  generalize cnt l = N at *
  split
  · exact h
  · split <;> omega
theorem Inv31.at_ {l q ph : Nat} (h : Inv31 l q ph) (hl : l < 65536) : 6 * q + ph ≤ 393216 := by
  have hb := cnt_b l hl
  unfold Inv31 at h
  generalize cnt l = N at *
  omega
theorem bsGo_calls (g k f t l q ph dt v : Nat) (w : World) (hl : l < 65536) (hi : Inv31 l q ph) (hB : BB w g k f t (cnt l) q ph dt) :
    Calls Try.prog 8 #[.pointer (some ⟨g, 0, none⟩), .int .u8 (v : Int)] w fun e w' => (∃ v, e = .returned v) ∧ BB w' g k f t (cnt l) (nQ l q ph) (nP l q ph) (nD l q ph v dt) ∧ Only (fun j => j = g) w w' := by
  have hb := cnt_b l hl
  rcases hi with ⟨h1, h2⟩ | ⟨h1, h2⟩
  · have hne : q ≠ cnt l := by omega
    unfold nQ nP nD
    rw [if_neg hne, if_neg hne, if_neg hne]
    exact bsStep_calls g k f t (cnt l) q ph dt v w hb.2 h1 h2 hB
  · unfold nQ nP nD
    rw [if_pos h1, if_pos h1, if_pos h1]
    subst h1
    exact (bsStepD_calls g k f t (cnt l) ph dt v w hb.2 hB).mono fun e w' ⟨he, hw⟩ => ⟨he, Blk.below hB hw hB.lt, Only.of hw⟩
theorem vGo_calls (h k f t l q ph dt v : Nat) (w : World) (hl : l < 65536) (hi : Inv31 l q ph) (hV : VB w h k f t l (6 * q + ph) dt) :
    Calls Try.prog 9 #[.pointer (some ⟨h, 0, none⟩), .int .u8 (v : Int)] w fun e w' => (∃ v, e = .returned v) ∧ VB w' h k f t l (6 * nQ l q ph + nP l q ph) (nD l q ph v dt) ∧ Only (fun j => j = h) w w' := by
  have hb := cnt_b l hl
  have ha := hi.at_ hl
  rcases hi with ⟨h1, h2⟩ | ⟨h1, h2⟩
  · have hne : q ≠ cnt l := by omega
    unfold nQ nP nD
    rw [if_neg hne, if_neg hne, if_neg hne]
    have e : 6 * (if ph = 5 then q + 1 else q) + (if ph = 5 then 0 else ph + 1) = 6 * q + ph + 1 := by split <;> omega
    rw [e]
    exact qStep_calls h k f t l (6 * q + ph) q ph dt v w hl rfl h2 h1 hV
  · unfold nQ nP nD
    rw [if_pos h1, if_pos h1, if_pos h1]
    exact (qStepD_calls h k f t l (6 * q + ph) dt v w hl ha (by omega) hV).mono fun e w' ⟨he, hw⟩ => ⟨he, Blk.below hV hw hV.lt, Only.of hw⟩
theorem alikeI_calls (g h k f t l q ph dt : Nat) (w : World) (hk : k < 5) (hf : f < 65536) (ht : t < 65536) (hl : l < 65536) (hi : Inv31 l q ph)
    (hB : BB w g k f t (cnt l) q ph dt) (hV : VB w h k f t l (6 * q + ph) dt) :
    Calls Try.prog 7 #[.pointer (some ⟨g, 0, none⟩), .pointer (some ⟨h, 0, none⟩)] w fun e w' => e = .returned (.bool true) ∧ Below w.heap.size w w' :=
  alike_calls g h k f t l q ph dt (6 * q + ph) w hk hf ht hl hi rfl hB hV

set_option maxRecDepth 100000 in
set_option maxHeartbeats 4000000 in
theorem live31_calls (w : World) : Calls Try.prog 5 #[] w fun e w' => e = .returned (.bool true) ∧ Below w.heap.size w w' := by
  go_enter Try.func5, Try.ntmps5
  go_wp2_with fail
  refine (bsNew_calls 0 5 9 2 _ (by omega) (by omega) (by omega) (by omega)).mono ?_
  rintro e w1 ⟨g, rfl, hB1, hg1, hb1⟩
  have hB1 : BB w1 g 0 5 9 2 0 0 0 := hB1
  go_wp2_with fail
  refine Cl.m (bsNext0_calls g 0 5 9 2 0 0 _ (by omega) (by omega) (by omega) (by omega) (by omega) hB1) ?_
  intro w2 hb2
  have hB2 : BB w2 g 0 5 9 2 0 0 0 := Blk.below hB1 hb2 hB1.lt
  have hb02 : Below w.heap.size w w2 := hb1.trans (hb2.mono hb1.size)
  go_wp2_with fail
  refine (bsStep_calls g 0 5 9 2 0 0 0 0 _ (by omega) (by omega) (by omega) hB2).mono ?_
  rintro e w3 ⟨⟨v3, rfl⟩, hB3, ho3⟩
  have hB3 : BB w3 g 0 5 9 2 0 1 0 := hB3
  have hb03 : Below w.heap.size w w3 := hb02.trans (ho3.below hb02.size (fun j e => by omega))
  go_wp2_with fail
  refine Cl.m (bsNext1_calls g 0 5 9 2 0 0 _ (by omega) (by omega) (by omega) (by omega) (by omega) hB3) ?_
  intro w4 hb4
  have hB4 : BB w4 g 0 5 9 2 0 1 0 := Blk.below hB3 hb4 hB3.lt
  have hb04 : Below w.heap.size w w4 := hb03.trans (hb4.mono hb03.size)
  go_wp2_with fail
  refine (bsStep_calls g 0 5 9 2 0 1 0 7 _ (by omega) (by omega) (by omega) hB4).mono ?_
  rintro e w5 ⟨⟨v5, rfl⟩, hB5, ho5⟩
  have hB5 : BB w5 g 0 5 9 2 0 2 7 := hB5
  have hb05 : Below w.heap.size w w5 := hb04.trans (ho5.below hb04.size (fun j e => by omega))
  go_wp2_with fail
  refine (nilStep_calls 1 _).mono ?_
  rintro e w6 ⟨⟨v6, rfl⟩, rfl⟩
  (go_wp2_with fail; refine Cl.p (nilNext_calls _) ?_)
  go_wp2_with fail
  refine Cl.m (bsNewNo_calls _) ?_
  intro w7 hb7
  have hB7 : BB w7 g 0 5 9 2 0 2 7 := Blk.below hB5 hb7 hB5.lt
  have hb07 : Below w.heap.size w w7 := hb05.trans (hb7.mono hb05.size)
  (go_wp2_with fail; refine Cl.p (bsData_calls g 0 5 9 2 0 2 7 _ hB7) ?_)
  have hL := bsLeft_calls g 0 5 9 2 0 2 7 w7 (by omega) (by omega) hB7
  have hL : Calls Try.prog 17 #[.pointer (some ⟨g, 0, none⟩)] w7 fun e w' => e = .returned (.int .i64 2) ∧ Below w7.heap.size w7 w' := hL
  go_wp2_with fail
  refine Cl.m hL ?_
  intro w8 hb8
  have hB8 : BB w8 g 0 5 9 2 0 2 7 := Blk.below hB7 hb8 hB7.lt
  have hb08 : Below w.heap.size w w8 := hb07.trans (hb8.mono hb07.size)
  (go_wp2_with fail; refine Cl.p (bsPhase_calls g 0 5 9 2 0 2 7 _ hB8) ?_)
  have hD := bsDone_calls g 0 5 9 2 0 2 7 w8 (by omega) (by omega) hB8
  rw [decide_eq_false (by omega)] at hD
  go_wp2_with fail
  refine Cl.m hD ?_
  intro w9 hb9
  have hb09 : Below w.heap.size w w9 := hb08.trans (hb9.mono hb08.size)
  (go_wp2_with fail; refine Cl.p (nilDone_calls _) ?_)
  (go_wp2_with fail; refine Cl.p (nilClone_calls _) ?_)
  (go_wp2_with fail; refine Cl.p (nilLeft_calls _) ?_)
  (go_wp2_with fail; refine Cl.p (nilPhase_calls _) ?_)
  (go_wp2_with fail; refine Cl.p (nilData_calls _) ?_)
  (go_wp2_with fail; refine Cl.p (bsCycles_calls _) ?_)
  (go_wp2_with fail; go_ret; exact ⟨rfl, by (repeat (first | exact Below.refl _ _ | assumption | refine Below.drew ?_ | refine Bl.alloc ?_ _ | refine below_drewN ?_ _ | refine Bl.chain ?_ (by assumption) (Nat.le_refl _)))⟩)
end Go.Proofs.Yticdlgbpbfcmaaa
