/-
  Package micro: own, placed.
-/
import Derived.Test.YtodimiffmmkndaaDoorMic2
namespace Go.Proofs.YtodimiffmmkndaaDoor
set_option linter.unusedSimpArgs false
set_option linter.unusedVariables false
set_option maxRecDepth 10000
open Go.RowKit Go.Shelf Pl
theorem blk_new1 (w : World) (X : Obj) (t : TypeId) (cs : Array Value) : Blk ((w.alloc X).alloc (.cells cs t)) (w.heap.size + 1) t cs := by
  have h := Blk.new (w.alloc X) t cs
  rwa [show (w.alloc X).heap.size = w.heap.size + 1 by simp] at h
theorem tms_le (s : List UInt8) (n : Nat) (hs : s.length ≤ 5) (hn : n ≤ 20) : (tms s n).length ≤ 400 := by
  unfold tms
  have := join_len (List.replicate n s) 5 (fun x hx => by rw [(List.mem_replicate.1 hx).2]; exact hs)
  rw [List.length_replicate] at this
  have h2 : (5 + 1) * n ≤ 6 * 20 := Nat.mul_le_mul_left _ hn
  omega
def ownS (s : ByteArray) (q : Nat) (cy : Int) : List UInt8 × Bool := if ((s.toList == [84, 65, 77])) = true then (jn [tms [68, 46, 46, 46] 2, [68, 46, 46, 33]], true) else if ((s.toList == [84, 77, 65]) || (s.toList == [66, 82, 65])) = true then (jn [[68, 46, 46, 46], [68, 46, 46, 33]], true) else if ((s.toList == [83, 84, 48]) || (s.toList == [83, 84, 49]) || (s.toList == [83, 84, 50])) = true then ([68, 46, 46, 46, 32, 83, 112, 46, 46], true) else if ((s.toList == [84, 83, 84])) = true then ([68, 46, 46, 46, 32, 68, 46, 46, 46, 32, 76, 118, 46, 46, 32, 68, 46, 46, 33], true) else if ((s.toList == [74, 77, 80])) = true then (if q = 5 then [68, 46, 46, 33] else [68, 46, 46, 46, 32, 76, 108, 46, 46, 32, 76, 104, 46, 46, 32, 68, 46, 46, 33], true) else if q = 0 then (jn [tms [68, 46, 46, 46] (cy - 2).toNat, [68, 46, 46, 33]], true) else if q = 11 then ([68, 46, 66, 46, 32, 68, 46, 66, 33], true) else if q = 12 then ([68, 46, 46, 46, 32, 76, 118, 46, 46, 32, 68, 46, 46, 46, 32, 68, 46, 66, 46, 32, 68, 46, 66, 33], true) else ([], false)
set_option maxHeartbeats 8000000 in
theorem own_calls (s : ByteArray) (q : Nat) (z cy : Int) (w : World) (hq : q < 20) (hcy : q = 0 → 2 ≤ cy ∧ cy ≤ 22) : Calls Tryd.prog 23 #[.agg #[.string s, .int .u8 (q : Int), .int .i64 z, .int .i64 cy]] w fun e w' => e = .returned (.tuple #[.string ⟨(ownS s q cy).1.toArray⟩, .bool (ownS s q cy).2]) ∧ Below w.heap.size w w' := by
  have hX : Blk (w.alloc (.cells #[.string s, .int .u8 (q : Int), .int .i64 z, .int .i64 cy] 30)) w.heap.size 30 #[.string s, .int .u8 (q : Int), .int .i64 z, .int .i64 cy] := Blk.new _ _ _
  have hbX : Below w.heap.size w (w.alloc (.cells #[.string s, .int .u8 (q : Int), .int .i64 z, .int .i64 cy] 30)) := Bl.alloc (Below.refl _ _) _
  cases h0 : (s.toList == [84, 65, 77])
  case true =>
    go_enter Tryd.func23, Tryd.ntmps23
    go_wp2_with fail
    refine Cl.m (times_calls [68, 46, 46, 46] 2 _ (by omega) (by decide)) ?_
    intro w2 hb2
    go_wp2_with fail
    refine Cl.m (jn2_calls w2.heap.size (tms [68, 46, 46, 46] 2) [68, 46, 46, 33] _ (Blk.new _ _ _) (tms_le _ _ (by decide) (by omega)) (by decide)) ?_
    intro w3 hb3
    go_wp2_with fail
    go_ret2
    refine ⟨?_, by (repeat (first | exact Below.refl _ _ | assumption | refine Below.drew ?_ | refine Bl.alloc ?_ _ | refine below_drewN ?_ _ | refine Bl.chain ?_ (by assumption) (Nat.le_refl _)))⟩
    unfold ownS
    rw [h0]
    rfl
  case false =>
    cases h1 : (s.toList == [84, 77, 65])
    case true =>
      go_enter Tryd.func23, Tryd.ntmps23
      go_wp2_with fail
      refine Cl.m (jn2_calls (w.heap.size + 1) [68, 46, 46, 46] [68, 46, 46, 33] _ (blk_new1 _ _ _ _) (by decide) (by decide)) ?_
      intro w3 hb3
      go_wp2_with fail
      go_ret2
      refine ⟨?_, by (repeat (first | exact Below.refl _ _ | assumption | refine Below.drew ?_ | refine Bl.alloc ?_ _ | refine below_drewN ?_ _ | refine Bl.chain ?_ (by assumption) (Nat.le_refl _)))⟩
      unfold ownS
      rw [h0, h1]
      rfl
    case false =>
      cases h2 : (s.toList == [66, 82, 65])
      case true =>
        go_enter Tryd.func23, Tryd.ntmps23
        go_wp2_with fail
        refine Cl.m (jn2_calls (w.heap.size + 1) [68, 46, 46, 46] [68, 46, 46, 33] _ (blk_new1 _ _ _ _) (by decide) (by decide)) ?_
        intro w3 hb3
        go_wp2_with fail
        go_ret2
        refine ⟨?_, by (repeat (first | exact Below.refl _ _ | assumption | refine Below.drew ?_ | refine Bl.alloc ?_ _ | refine below_drewN ?_ _ | refine Bl.chain ?_ (by assumption) (Nat.le_refl _)))⟩
        unfold ownS
        rw [h0, h1, h2]
        rfl
      case false =>
        cases h3 : (s.toList == [83, 84, 48])
        case true =>
          go_enter Tryd.func23, Tryd.ntmps23
          go_wp2_with fail
          go_ret2
          refine ⟨?_, by (repeat (first | exact Below.refl _ _ | assumption | refine Below.drew ?_ | refine Bl.alloc ?_ _ | refine below_drewN ?_ _ | refine Bl.chain ?_ (by assumption) (Nat.le_refl _)))⟩
          unfold ownS
          rw [h0, h1, h2, h3]
          rfl
        case false =>
          cases h4 : (s.toList == [83, 84, 49])
          case true =>
            go_enter Tryd.func23, Tryd.ntmps23
            go_wp2_with fail
            go_ret2
            refine ⟨?_, by (repeat (first | exact Below.refl _ _ | assumption | refine Below.drew ?_ | refine Bl.alloc ?_ _ | refine below_drewN ?_ _ | refine Bl.chain ?_ (by assumption) (Nat.le_refl _)))⟩
            unfold ownS
            rw [h0, h1, h2, h3, h4]
            rfl
          case false =>
            cases h5 : (s.toList == [83, 84, 50])
            case true =>
              go_enter Tryd.func23, Tryd.ntmps23
              go_wp2_with fail
              go_ret2
              refine ⟨?_, by (repeat (first | exact Below.refl _ _ | assumption | refine Below.drew ?_ | refine Bl.alloc ?_ _ | refine below_drewN ?_ _ | refine Bl.chain ?_ (by assumption) (Nat.le_refl _)))⟩
              unfold ownS
              rw [h0, h1, h2, h3, h4, h5]
              rfl
            case false =>
              cases h6 : (s.toList == [84, 83, 84])
              case true =>
                go_enter Tryd.func23, Tryd.ntmps23
                go_wp2_with fail
                go_ret2
                refine ⟨?_, by (repeat (first | exact Below.refl _ _ | assumption | refine Below.drew ?_ | refine Bl.alloc ?_ _ | refine below_drewN ?_ _ | refine Bl.chain ?_ (by assumption) (Nat.le_refl _)))⟩
                unfold ownS
                rw [h0, h1, h2, h3, h4, h5, h6]
                rfl
              case false =>
                cases h7 : (s.toList == [74, 77, 80])
                case true =>
                  by_cases hq5 : q = 5
                  · subst hq5
                    go_enter Tryd.func23, Tryd.ntmps23
                    go_wp2_with fail
                    go_ret2
                    refine ⟨?_, by (repeat (first | exact Below.refl _ _ | assumption | refine Below.drew ?_ | refine Bl.alloc ?_ _ | refine below_drewN ?_ _ | refine Bl.chain ?_ (by assumption) (Nat.le_refl _)))⟩
                    unfold ownS
                    rw [h0, h1, h2, h3, h4, h5, h6, h7]
                    rfl
                  · have n5 : ((q : Int) == 5) = false := by rw [beq_eq_false_iff_ne]; omega
                    go_enter Tryd.func23, Tryd.ntmps23
                    go_wp2_with fail
                    go_ret2
                    refine ⟨?_, by (repeat (first | exact Below.refl _ _ | assumption | refine Below.drew ?_ | refine Bl.alloc ?_ _ | refine below_drewN ?_ _ | refine Bl.chain ?_ (by assumption) (Nat.le_refl _)))⟩
                    unfold ownS
                    rw [h0, h1, h2, h3, h4, h5, h6, h7]
                    rw [show (if q = 5 then [68, 46, 46, 33] else [68, 46, 46, 46, 32, 76, 108, 46, 46, 32, 76, 104, 46, 46, 32, 68, 46, 46, 33]) = ([68, 46, 46, 46, 32, 76, 108, 46, 46, 32, 76, 104, 46, 46, 32, 68, 46, 46, 33] : List UInt8) from if_neg hq5]; rfl
                case false =>
                  by_cases q0 : q = 0
                  · obtain ⟨k, hk, rfl⟩ : ∃ k : Nat, k ≤ 20 ∧ cy = ((k + 2 : Nat) : Int) := ⟨(cy - 2).toNat, by have := hcy q0; omega, by have := hcy q0; omega⟩
                    subst q0
                    have hkk : ((k + 2 : Nat) : Int) - 2 = (k : Int) := by omega
                    have hkt : (((k + 2 : Nat) : Int) - 2).toNat = k := by omega
                    go_enter Tryd.func23, Tryd.ntmps23
                    go_wp2_with fail
                    refine Cl.m (times_calls [68, 46, 46, 46] k _ (by omega) (by decide)) ?_
                    intro w2 hb2
                    go_wp2_with fail
                    refine Cl.m (jn2_calls w2.heap.size (tms [68, 46, 46, 46] k) [68, 46, 46, 33] _ (Blk.new _ _ _) (tms_le _ _ (by decide) (by omega)) (by decide)) ?_
                    intro w3 hb3
                    go_wp2_with fail
                    go_ret2
                    refine ⟨?_, by (repeat (first | exact Below.refl _ _ | assumption | refine Below.drew ?_ | refine Bl.alloc ?_ _ | refine below_drewN ?_ _ | refine Bl.chain ?_ (by assumption) (Nat.le_refl _)))⟩
                    unfold ownS
                    rw [h0, h1, h2, h3, h4, h5, h6, h7, hkt]
                    rfl
                  · have n0 : ((q : Int) == 0) = false := by rw [beq_eq_false_iff_ne]; omega
                    by_cases q1 : q = 11
                    · subst q1
                      go_enter Tryd.func23, Tryd.ntmps23
                      go_wp2_with fail
                      go_ret2
                      refine ⟨?_, by (repeat (first | exact Below.refl _ _ | assumption | refine Below.drew ?_ | refine Bl.alloc ?_ _ | refine below_drewN ?_ _ | refine Bl.chain ?_ (by assumption) (Nat.le_refl _)))⟩
                      unfold ownS
                      rw [h0, h1, h2, h3, h4, h5, h6, h7]
                      rfl
                    · have n1 : ((q : Int) == 11) = false := by rw [beq_eq_false_iff_ne]; omega
                      by_cases q2 : q = 12
                      · subst q2
                        go_enter Tryd.func23, Tryd.ntmps23
                        go_wp2_with fail
                        go_ret2
                        refine ⟨?_, by (repeat (first | exact Below.refl _ _ | assumption | refine Below.drew ?_ | refine Bl.alloc ?_ _ | refine below_drewN ?_ _ | refine Bl.chain ?_ (by assumption) (Nat.le_refl _)))⟩
                        unfold ownS
                        rw [h0, h1, h2, h3, h4, h5, h6, h7]
                        rfl
                      · have n2 : ((q : Int) == 12) = false := by rw [beq_eq_false_iff_ne]; omega
                        go_enter Tryd.func23, Tryd.ntmps23
                        go_wp2_with fail
                        go_ret2
                        refine ⟨?_, by (repeat (first | exact Below.refl _ _ | assumption | refine Below.drew ?_ | refine Bl.alloc ?_ _ | refine below_drewN ?_ _ | refine Bl.chain ?_ (by assumption) (Nat.le_refl _)))⟩
                        unfold ownS
                        rw [h0, h1, h2, h3, h4, h5, h6, h7]
                        show _ = Ending.returned (.tuple #[.string ⟨(if q = 0 then _ else if q = 11 then _ else if q = 12 then _ else _ : List UInt8 × Bool).1.toArray⟩, .bool (if q = 0 then _ else if q = 11 then _ else if q = 12 then _ else _ : List UInt8 × Bool).2])
                        rw [if_neg q0, if_neg q1, if_neg q2]
                        rfl
def plcS (s : ByteArray) (q : Nat) : List UInt8 := if ((s.toList == [83, 84, 65]) || (s.toList == [83, 84, 88]) || (s.toList == [83, 84, 89]) || (s.toList == [83, 84, 90])) = true then jn [fndS q, [83, 115, 46, 46]] else if ((s.toList == [65, 83, 76]) || (s.toList == [76, 83, 82]) || (s.toList == [82, 79, 76]) || (s.toList == [82, 79, 82]) || (s.toList == [73, 78, 67]) || (s.toList == [68, 69, 67]) || (s.toList == [84, 83, 66]) || (s.toList == [84, 82, 66])) = true then jn [fndS q, [76, 118, 46, 46, 32, 68, 46, 46, 33, 32, 83, 114, 46, 46]] else if 3 < s.size then jn [fndS q, [76, 118, 46, 46, 32, 68, 46, 46, 46, 32, 68, 46, 46, 33, 32, 83, 114, 46, 46]] else jn [fndS q, [76, 118, 46, 33]]
theorem fndS_le (q : Nat) : (fndS q).length ≤ 400 := by
  unfold fndS
  split <;> decide
set_option maxHeartbeats 8000000 in
theorem plc_calls (s : ByteArray) (q : Nat) (z cy : Int) (w : World) (hq : q < 20) (hs : s.size ≤ 4) : Calls Tryd.prog 28 #[.agg #[.string s, .int .u8 (q : Int), .int .i64 z, .int .i64 cy]] w fun e w' => e = .returned (.string ⟨(plcS s q).toArray⟩) ∧ Below w.heap.size w w' := by
  have hX : Blk (w.alloc (.cells #[.string s, .int .u8 (q : Int), .int .i64 z, .int .i64 cy] 30)) w.heap.size 30 #[.string s, .int .u8 (q : Int), .int .i64 z, .int .i64 cy] := Blk.new _ _ _
  have hbX : Below w.heap.size w (w.alloc (.cells #[.string s, .int .u8 (q : Int), .int .i64 z, .int .i64 cy] 30)) := Bl.alloc (Below.refl _ _) _
  have hf := fun W => fnd_calls q W hq
  have hfl := fndS_le q
  cases h0 : (s.toList == [83, 84, 65])
  case true =>
    go_enter Tryd.func28, Tryd.ntmps28
    go_wp2_with fail
    refine Cl.p (hf _) ?_
    go_wp2_with fail
    refine Cl.m (jn2_calls (w.heap.size + 1) (fndS q) [83, 115, 46, 46] _ (blk_new1 _ _ _ _) hfl (by decide)) ?_
    intro w3 hb3
    go_wp2_with fail
    go_ret
    refine ⟨?_, by (repeat (first | exact Below.refl _ _ | assumption | refine Below.drew ?_ | refine Bl.alloc ?_ _ | refine below_drewN ?_ _ | refine Bl.chain ?_ (by assumption) (Nat.le_refl _)))⟩
    unfold plcS
    rw [h0]
    rfl
  case false =>
    cases h1 : (s.toList == [83, 84, 88])
    case true =>
      go_enter Tryd.func28, Tryd.ntmps28
      go_wp2_with fail
      refine Cl.p (hf _) ?_
      go_wp2_with fail
      refine Cl.m (jn2_calls (w.heap.size + 1) (fndS q) [83, 115, 46, 46] _ (blk_new1 _ _ _ _) hfl (by decide)) ?_
      intro w3 hb3
      go_wp2_with fail
      go_ret
      refine ⟨?_, by (repeat (first | exact Below.refl _ _ | assumption | refine Below.drew ?_ | refine Bl.alloc ?_ _ | refine below_drewN ?_ _ | refine Bl.chain ?_ (by assumption) (Nat.le_refl _)))⟩
      unfold plcS
      rw [h0, h1]
      rfl
    case false =>
      cases h2 : (s.toList == [83, 84, 89])
      case true =>
        go_enter Tryd.func28, Tryd.ntmps28
        go_wp2_with fail
        refine Cl.p (hf _) ?_
        go_wp2_with fail
        refine Cl.m (jn2_calls (w.heap.size + 1) (fndS q) [83, 115, 46, 46] _ (blk_new1 _ _ _ _) hfl (by decide)) ?_
        intro w3 hb3
        go_wp2_with fail
        go_ret
        refine ⟨?_, by (repeat (first | exact Below.refl _ _ | assumption | refine Below.drew ?_ | refine Bl.alloc ?_ _ | refine below_drewN ?_ _ | refine Bl.chain ?_ (by assumption) (Nat.le_refl _)))⟩
        unfold plcS
        rw [h0, h1, h2]
        rfl
      case false =>
        cases h3 : (s.toList == [83, 84, 90])
        case true =>
          go_enter Tryd.func28, Tryd.ntmps28
          go_wp2_with fail
          refine Cl.p (hf _) ?_
          go_wp2_with fail
          refine Cl.m (jn2_calls (w.heap.size + 1) (fndS q) [83, 115, 46, 46] _ (blk_new1 _ _ _ _) hfl (by decide)) ?_
          intro w3 hb3
          go_wp2_with fail
          go_ret
          refine ⟨?_, by (repeat (first | exact Below.refl _ _ | assumption | refine Below.drew ?_ | refine Bl.alloc ?_ _ | refine below_drewN ?_ _ | refine Bl.chain ?_ (by assumption) (Nat.le_refl _)))⟩
          unfold plcS
          rw [h0, h1, h2, h3]
          rfl
        case false =>
          cases h4 : (s.toList == [65, 83, 76])
          case true =>
            go_enter Tryd.func28, Tryd.ntmps28
            go_wp2_with fail
            refine Cl.p (hf _) ?_
            go_wp2_with fail
            refine Cl.m (jn2_calls (w.heap.size + 1) (fndS q) [76, 118, 46, 46, 32, 68, 46, 46, 33, 32, 83, 114, 46, 46] _ (blk_new1 _ _ _ _) hfl (by decide)) ?_
            intro w3 hb3
            go_wp2_with fail
            go_ret
            refine ⟨?_, by (repeat (first | exact Below.refl _ _ | assumption | refine Below.drew ?_ | refine Bl.alloc ?_ _ | refine below_drewN ?_ _ | refine Bl.chain ?_ (by assumption) (Nat.le_refl _)))⟩
            unfold plcS
            rw [h0, h1, h2, h3, h4]
            rfl
          case false =>
            cases h5 : (s.toList == [76, 83, 82])
            case true =>
              go_enter Tryd.func28, Tryd.ntmps28
              go_wp2_with fail
              refine Cl.p (hf _) ?_
              go_wp2_with fail
              refine Cl.m (jn2_calls (w.heap.size + 1) (fndS q) [76, 118, 46, 46, 32, 68, 46, 46, 33, 32, 83, 114, 46, 46] _ (blk_new1 _ _ _ _) hfl (by decide)) ?_
              intro w3 hb3
              go_wp2_with fail
              go_ret
              refine ⟨?_, by (repeat (first | exact Below.refl _ _ | assumption | refine Below.drew ?_ | refine Bl.alloc ?_ _ | refine below_drewN ?_ _ | refine Bl.chain ?_ (by assumption) (Nat.le_refl _)))⟩
              unfold plcS
              rw [h0, h1, h2, h3, h4, h5]
              rfl
            case false =>
              cases h6 : (s.toList == [82, 79, 76])
              case true =>
                go_enter Tryd.func28, Tryd.ntmps28
                go_wp2_with fail
                refine Cl.p (hf _) ?_
                go_wp2_with fail
                refine Cl.m (jn2_calls (w.heap.size + 1) (fndS q) [76, 118, 46, 46, 32, 68, 46, 46, 33, 32, 83, 114, 46, 46] _ (blk_new1 _ _ _ _) hfl (by decide)) ?_
                intro w3 hb3
                go_wp2_with fail
                go_ret
                refine ⟨?_, by (repeat (first | exact Below.refl _ _ | assumption | refine Below.drew ?_ | refine Bl.alloc ?_ _ | refine below_drewN ?_ _ | refine Bl.chain ?_ (by assumption) (Nat.le_refl _)))⟩
                unfold plcS
                rw [h0, h1, h2, h3, h4, h5, h6]
                rfl
              case false =>
                cases h7 : (s.toList == [82, 79, 82])
                case true =>
                  go_enter Tryd.func28, Tryd.ntmps28
                  go_wp2_with fail
                  refine Cl.p (hf _) ?_
                  go_wp2_with fail
                  refine Cl.m (jn2_calls (w.heap.size + 1) (fndS q) [76, 118, 46, 46, 32, 68, 46, 46, 33, 32, 83, 114, 46, 46] _ (blk_new1 _ _ _ _) hfl (by decide)) ?_
                  intro w3 hb3
                  go_wp2_with fail
                  go_ret
                  refine ⟨?_, by (repeat (first | exact Below.refl _ _ | assumption | refine Below.drew ?_ | refine Bl.alloc ?_ _ | refine below_drewN ?_ _ | refine Bl.chain ?_ (by assumption) (Nat.le_refl _)))⟩
                  unfold plcS
                  rw [h0, h1, h2, h3, h4, h5, h6, h7]
                  rfl
                case false =>
                  cases h8 : (s.toList == [73, 78, 67])
                  case true =>
                    go_enter Tryd.func28, Tryd.ntmps28
                    go_wp2_with fail
                    refine Cl.p (hf _) ?_
                    go_wp2_with fail
                    refine Cl.m (jn2_calls (w.heap.size + 1) (fndS q) [76, 118, 46, 46, 32, 68, 46, 46, 33, 32, 83, 114, 46, 46] _ (blk_new1 _ _ _ _) hfl (by decide)) ?_
                    intro w3 hb3
                    go_wp2_with fail
                    go_ret
                    refine ⟨?_, by (repeat (first | exact Below.refl _ _ | assumption | refine Below.drew ?_ | refine Bl.alloc ?_ _ | refine below_drewN ?_ _ | refine Bl.chain ?_ (by assumption) (Nat.le_refl _)))⟩
                    unfold plcS
                    rw [h0, h1, h2, h3, h4, h5, h6, h7, h8]
                    rfl
                  case false =>
                    cases h9 : (s.toList == [68, 69, 67])
                    case true =>
                      go_enter Tryd.func28, Tryd.ntmps28
                      go_wp2_with fail
                      refine Cl.p (hf _) ?_
                      go_wp2_with fail
                      refine Cl.m (jn2_calls (w.heap.size + 1) (fndS q) [76, 118, 46, 46, 32, 68, 46, 46, 33, 32, 83, 114, 46, 46] _ (blk_new1 _ _ _ _) hfl (by decide)) ?_
                      intro w3 hb3
                      go_wp2_with fail
                      go_ret
                      refine ⟨?_, by (repeat (first | exact Below.refl _ _ | assumption | refine Below.drew ?_ | refine Bl.alloc ?_ _ | refine below_drewN ?_ _ | refine Bl.chain ?_ (by assumption) (Nat.le_refl _)))⟩
                      unfold plcS
                      rw [h0, h1, h2, h3, h4, h5, h6, h7, h8, h9]
                      rfl
                    case false =>
                      cases h10 : (s.toList == [84, 83, 66])
                      case true =>
                        go_enter Tryd.func28, Tryd.ntmps28
                        go_wp2_with fail
                        refine Cl.p (hf _) ?_
                        go_wp2_with fail
                        refine Cl.m (jn2_calls (w.heap.size + 1) (fndS q) [76, 118, 46, 46, 32, 68, 46, 46, 33, 32, 83, 114, 46, 46] _ (blk_new1 _ _ _ _) hfl (by decide)) ?_
                        intro w3 hb3
                        go_wp2_with fail
                        go_ret
                        refine ⟨?_, by (repeat (first | exact Below.refl _ _ | assumption | refine Below.drew ?_ | refine Bl.alloc ?_ _ | refine below_drewN ?_ _ | refine Bl.chain ?_ (by assumption) (Nat.le_refl _)))⟩
                        unfold plcS
                        rw [h0, h1, h2, h3, h4, h5, h6, h7, h8, h9, h10]
                        rfl
                      case false =>
                        cases h11 : (s.toList == [84, 82, 66])
                        case true =>
                          go_enter Tryd.func28, Tryd.ntmps28
                          go_wp2_with fail
                          refine Cl.p (hf _) ?_
                          go_wp2_with fail
                          refine Cl.m (jn2_calls (w.heap.size + 1) (fndS q) [76, 118, 46, 46, 32, 68, 46, 46, 33, 32, 83, 114, 46, 46] _ (blk_new1 _ _ _ _) hfl (by decide)) ?_
                          intro w3 hb3
                          go_wp2_with fail
                          go_ret
                          refine ⟨?_, by (repeat (first | exact Below.refl _ _ | assumption | refine Below.drew ?_ | refine Bl.alloc ?_ _ | refine below_drewN ?_ _ | refine Bl.chain ?_ (by assumption) (Nat.le_refl _)))⟩
                          unfold plcS
                          rw [h0, h1, h2, h3, h4, h5, h6, h7, h8, h9, h10, h11]
                          rfl
                        case false =>
                          by_cases hs3 : 3 < s.size
                          · have i3 : (3 : Int) < (s.size : Int) := by omega
                            go_enter Tryd.func28, Tryd.ntmps28
                            go_wp2_with fail
                            refine Cl.p (hf _) ?_
                            go_wp2_with fail
                            refine Cl.m (jn2_calls (w.heap.size + 1) (fndS q) [76, 118, 46, 46, 32, 68, 46, 46, 46, 32, 68, 46, 46, 33, 32, 83, 114, 46, 46] _ (blk_new1 _ _ _ _) hfl (by decide)) ?_
                            intro w3 hb3
                            go_wp2_with fail
                            go_ret
                            refine ⟨?_, by (repeat (first | exact Below.refl _ _ | assumption | refine Below.drew ?_ | refine Bl.alloc ?_ _ | refine below_drewN ?_ _ | refine Bl.chain ?_ (by assumption) (Nat.le_refl _)))⟩
                            unfold plcS
                            rw [h0, h1, h2, h3, h4, h5, h6, h7, h8, h9, h10, h11, if_pos hs3]
                            rfl
                          · have i3 : (decide ((3 : Int) < (s.size : Int))) = false := decide_eq_false (by omega)
                            have i4 : (decide (3 < s.size)) = false := decide_eq_false hs3
                            go_enter Tryd.func28, Tryd.ntmps28
                            go_wp2_with fail
                            refine Cl.p (hf _) ?_
                            go_wp2_with fail
                            refine Cl.m (jn2_calls (w.heap.size + 1) (fndS q) [76, 118, 46, 33] _ (blk_new1 _ _ _ _) hfl (by decide)) ?_
                            intro w3 hb3
                            go_wp2_with fail
                            go_ret
                            refine ⟨?_, by (repeat (first | exact Below.refl _ _ | assumption | refine Below.drew ?_ | refine Bl.alloc ?_ _ | refine below_drewN ?_ _ | refine Bl.chain ?_ (by assumption) (Nat.le_refl _)))⟩
                            unfold plcS
                            rw [h0, h1, h2, h3, h4, h5, h6, h7, h8, h9, h10, h11, if_neg hs3]
                            rfl
end Go.Proofs.YtodimiffmmkndaaDoor
