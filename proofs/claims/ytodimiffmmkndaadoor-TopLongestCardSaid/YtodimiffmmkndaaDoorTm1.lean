/-
  Package timing: find, named, placed, longer.
-/
import Derived.Test.YtodimiffmmkndaaDoorMic4
namespace Go.Proofs.YtodimiffmmkndaaDoor
set_option linter.unusedSimpArgs false
set_option linter.unusedVariables false
set_option maxRecDepth 10000
open Go.RowKit Go.Shelf Pl
def tfnS (q : Nat) : List UInt8 := if q = 8 ∨ q = 9 ∨ q = 10 then [68, 76, 76, 68] else [68]
theorem tfn_calls (q : Nat) (w : World) (hq : q < 20) : Calls Tryd.prog 70 #[.int .u8 (q : Int)] w fun e w' => e = .returned (.string ⟨(tfnS q).toArray⟩) ∧ w = w' := by
  have h : q = 0 ∨ q = 1 ∨ q = 2 ∨ q = 3 ∨ q = 4 ∨ q = 5 ∨ q = 6 ∨ q = 7 ∨ q = 8 ∨ q = 9 ∨ q = 10 ∨ q = 11 ∨ q = 12 ∨ q = 13 ∨ q = 14 ∨ q = 15 ∨ q = 16 ∨ q = 17 ∨ q = 18 ∨ q = 19 := by omega
  rcases h with rfl | rfl | rfl | rfl | rfl | rfl | rfl | rfl | rfl | rfl | rfl | rfl | rfl | rfl | rfl | rfl | rfl | rfl | rfl | rfl
  all_goals
    go_enter Tryd.func70, Tryd.ntmps70
    go_wp2_with fail
    go_ret
    exact ⟨rfl, rfl⟩
theorem tfnS_le (q : Nat) : (tfnS q).length ≤ 4 := by
  unfold tfnS
  split <;> decide
def nmdS (s : ByteArray) : List UInt8 × Bool := if ((s.toList == [80, 72, 65]) || (s.toList == [80, 72, 88]) || (s.toList == [80, 72, 89]) || (s.toList == [80, 72, 80])) = true then ([68, 80], true) else if ((s.toList == [80, 76, 65]) || (s.toList == [80, 76, 88]) || (s.toList == [80, 76, 89]) || (s.toList == [80, 76, 80])) = true then ([68, 68, 85], true) else if ((s.toList == [82, 84, 83])) = true then ([68, 68, 85, 85, 68, 68], true) else if ((s.toList == [82, 84, 73])) = true then ([68, 68, 85, 85, 85, 68], true) else if ((s.toList == [66, 82, 75])) = true then ([80, 80, 80, 86, 86, 68], true) else if ((s.toList == [66, 83, 82])) = true then ([68, 80, 80, 68, 68, 68], true) else if ((s.toList == [74, 83, 82])) = true then ([68, 80, 80, 68], true) else if ((s.toList == [83, 84, 48]) || (s.toList == [83, 84, 49]) || (s.toList == [83, 84, 50])) = true then ([68, 83], true) else if ((s.toList == [84, 83, 84])) = true then ([68, 68, 76, 68], true) else ([], false)
set_option maxHeartbeats 4000000 in
theorem nmd_calls (s : ByteArray) (w : World) : Calls Tryd.prog 53 #[.string s] w fun e w' => e = .returned (.tuple #[.string ⟨(nmdS s).1.toArray⟩, .bool (nmdS s).2]) ∧ w = w' := by
  cases h0 : (s.toList == [80, 72, 65])
  case true =>
    go_enter Tryd.func53, Tryd.ntmps53
    go_wp2_with fail
    go_ret2
    refine ⟨?_, rfl⟩
    unfold nmdS
    rw [h0]
    rfl
  case false =>
    cases h1 : (s.toList == [80, 72, 88])
    case true =>
      go_enter Tryd.func53, Tryd.ntmps53
      go_wp2_with fail
      go_ret2
      refine ⟨?_, rfl⟩
      unfold nmdS
      rw [h0, h1]
      rfl
    case false =>
      cases h2 : (s.toList == [80, 72, 89])
      case true =>
        go_enter Tryd.func53, Tryd.ntmps53
        go_wp2_with fail
        go_ret2
        refine ⟨?_, rfl⟩
        unfold nmdS
        rw [h0, h1, h2]
        rfl
      case false =>
        cases h3 : (s.toList == [80, 72, 80])
        case true =>
          go_enter Tryd.func53, Tryd.ntmps53
          go_wp2_with fail
          go_ret2
          refine ⟨?_, rfl⟩
          unfold nmdS
          rw [h0, h1, h2, h3]
          rfl
        case false =>
          cases h4 : (s.toList == [80, 76, 65])
          case true =>
            go_enter Tryd.func53, Tryd.ntmps53
            go_wp2_with fail
            go_ret2
            refine ⟨?_, rfl⟩
            unfold nmdS
            rw [h0, h1, h2, h3, h4]
            rfl
          case false =>
            cases h5 : (s.toList == [80, 76, 88])
            case true =>
              go_enter Tryd.func53, Tryd.ntmps53
              go_wp2_with fail
              go_ret2
              refine ⟨?_, rfl⟩
              unfold nmdS
              rw [h0, h1, h2, h3, h4, h5]
              rfl
            case false =>
              cases h6 : (s.toList == [80, 76, 89])
              case true =>
                go_enter Tryd.func53, Tryd.ntmps53
                go_wp2_with fail
                go_ret2
                refine ⟨?_, rfl⟩
                unfold nmdS
                rw [h0, h1, h2, h3, h4, h5, h6]
                rfl
              case false =>
                cases h7 : (s.toList == [80, 76, 80])
                case true =>
                  go_enter Tryd.func53, Tryd.ntmps53
                  go_wp2_with fail
                  go_ret2
                  refine ⟨?_, rfl⟩
                  unfold nmdS
                  rw [h0, h1, h2, h3, h4, h5, h6, h7]
                  rfl
                case false =>
                  cases h8 : (s.toList == [82, 84, 83])
                  case true =>
                    go_enter Tryd.func53, Tryd.ntmps53
                    go_wp2_with fail
                    go_ret2
                    refine ⟨?_, rfl⟩
                    unfold nmdS
                    rw [h0, h1, h2, h3, h4, h5, h6, h7, h8]
                    rfl
                  case false =>
                    cases h9 : (s.toList == [82, 84, 73])
                    case true =>
                      go_enter Tryd.func53, Tryd.ntmps53
                      go_wp2_with fail
                      go_ret2
                      refine ⟨?_, rfl⟩
                      unfold nmdS
                      rw [h0, h1, h2, h3, h4, h5, h6, h7, h8, h9]
                      rfl
                    case false =>
                      cases h10 : (s.toList == [66, 82, 75])
                      case true =>
                        go_enter Tryd.func53, Tryd.ntmps53
                        go_wp2_with fail
                        go_ret2
                        refine ⟨?_, rfl⟩
                        unfold nmdS
                        rw [h0, h1, h2, h3, h4, h5, h6, h7, h8, h9, h10]
                        rfl
                      case false =>
                        cases h11 : (s.toList == [66, 83, 82])
                        case true =>
                          go_enter Tryd.func53, Tryd.ntmps53
                          go_wp2_with fail
                          go_ret2
                          refine ⟨?_, rfl⟩
                          unfold nmdS
                          rw [h0, h1, h2, h3, h4, h5, h6, h7, h8, h9, h10, h11]
                          rfl
                        case false =>
                          cases h12 : (s.toList == [74, 83, 82])
                          case true =>
                            go_enter Tryd.func53, Tryd.ntmps53
                            go_wp2_with fail
                            go_ret2
                            refine ⟨?_, rfl⟩
                            unfold nmdS
                            rw [h0, h1, h2, h3, h4, h5, h6, h7, h8, h9, h10, h11, h12]
                            rfl
                          case false =>
                            cases h13 : (s.toList == [83, 84, 48])
                            case true =>
                              go_enter Tryd.func53, Tryd.ntmps53
                              go_wp2_with fail
                              go_ret2
                              refine ⟨?_, rfl⟩
                              unfold nmdS
                              rw [h0, h1, h2, h3, h4, h5, h6, h7, h8, h9, h10, h11, h12, h13]
                              rfl
                            case false =>
                              cases h14 : (s.toList == [83, 84, 49])
                              case true =>
                                go_enter Tryd.func53, Tryd.ntmps53
                                go_wp2_with fail
                                go_ret2
                                refine ⟨?_, rfl⟩
                                unfold nmdS
                                rw [h0, h1, h2, h3, h4, h5, h6, h7, h8, h9, h10, h11, h12, h13, h14]
                                rfl
                              case false =>
                                cases h15 : (s.toList == [83, 84, 50])
                                case true =>
                                  go_enter Tryd.func53, Tryd.ntmps53
                                  go_wp2_with fail
                                  go_ret2
                                  refine ⟨?_, rfl⟩
                                  unfold nmdS
                                  rw [h0, h1, h2, h3, h4, h5, h6, h7, h8, h9, h10, h11, h12, h13, h14, h15]
                                  rfl
                                case false =>
                                  cases h16 : (s.toList == [84, 83, 84])
                                  case true =>
                                    go_enter Tryd.func53, Tryd.ntmps53
                                    go_wp2_with fail
                                    go_ret2
                                    refine ⟨?_, rfl⟩
                                    unfold nmdS
                                    rw [h0, h1, h2, h3, h4, h5, h6, h7, h8, h9, h10, h11, h12, h13, h14, h15, h16]
                                    rfl
                                  case false =>
                                    go_enter Tryd.func53, Tryd.ntmps53
                                    go_wp2_with fail
                                    go_ret2
                                    refine ⟨?_, rfl⟩
                                    unfold nmdS
                                    rw [h0, h1, h2, h3, h4, h5, h6, h7, h8, h9, h10, h11, h12, h13, h14, h15, h16]
                                    rfl
theorem nmdS_le (s : ByteArray) : (nmdS s).1.length ≤ 6 := by
  unfold nmdS
  repeat' split
  all_goals decide
def tplS (s : ByteArray) (q : Nat) : List UInt8 := if ((s.toList == [74, 77, 80])) = true then if q = 5 then [68] else [68, 76, 76, 68] else if ((s.toList == [83, 84, 65]) || (s.toList == [83, 84, 88]) || (s.toList == [83, 84, 89]) || (s.toList == [83, 84, 90])) = true then tfnS q ++ [83] else if ((s.toList == [65, 83, 76]) || (s.toList == [76, 83, 82]) || (s.toList == [82, 79, 76]) || (s.toList == [82, 79, 82]) || (s.toList == [73, 78, 67]) || (s.toList == [68, 69, 67]) || (s.toList == [84, 83, 66]) || (s.toList == [84, 82, 66])) = true then [68, 76, 68, 83] else if q = 12 then [68, 76, 68] else if 3 < s.size then [68, 76, 68, 68, 83] else tfnS q ++ [76]
set_option maxHeartbeats 8000000 in
theorem tpl_calls (s : ByteArray) (q : Nat) (z cy : Int) (w : World) (hq : q < 20) (hs : s.size ≤ 4) : Calls Tryd.prog 54 #[.agg #[.string s, .int .u8 (q : Int), .int .i64 z, .int .i64 cy]] w fun e w' => e = .returned (.string ⟨(tplS s q).toArray⟩) ∧ Below w.heap.size w w' := by
  have hX : Blk (w.alloc (.cells #[.string s, .int .u8 (q : Int), .int .i64 z, .int .i64 cy] 30)) w.heap.size 30 #[.string s, .int .u8 (q : Int), .int .i64 z, .int .i64 cy] := Blk.new _ _ _
  have hbX : Below w.heap.size w (w.alloc (.cells #[.string s, .int .u8 (q : Int), .int .i64 z, .int .i64 cy] 30)) := Bl.alloc (Below.refl _ _) _
  have hf := fun W => tfn_calls q W hq
  have hfl := tfnS_le q
  cases h0 : (s.toList == [74, 77, 80])
  case true =>
    by_cases hq5 : q = 5
    · subst hq5
      go_enter Tryd.func54, Tryd.ntmps54
      go_wp2_with fail
      go_ret
      refine ⟨?_, by (repeat (first | exact Below.refl _ _ | assumption | refine Below.drew ?_ | refine Bl.alloc ?_ _ | refine below_drewN ?_ _ | refine Bl.chain ?_ (by assumption) (Nat.le_refl _)))⟩
      unfold tplS
      rw [h0]
      rfl
    · have n5 : ((q : Int) == 5) = false := by rw [beq_eq_false_iff_ne]; omega
      go_enter Tryd.func54, Tryd.ntmps54
      go_wp2_with fail
      go_ret
      refine ⟨?_, by (repeat (first | exact Below.refl _ _ | assumption | refine Below.drew ?_ | refine Bl.alloc ?_ _ | refine below_drewN ?_ _ | refine Bl.chain ?_ (by assumption) (Nat.le_refl _)))⟩
      unfold tplS
      rw [h0]
      rw [show (if q = 5 then [68] else [68, 76, 76, 68]) = ([68, 76, 76, 68] : List UInt8) from if_neg hq5]; rfl
  case false =>
    cases h1 : (s.toList == [83, 84, 65])
    case true =>
      go_enter Tryd.func54, Tryd.ntmps54
      go_wp2_with fail
      refine Cl.p (hf _) ?_
      go_wp2_with fail
      go_ret
      refine ⟨?_, by (repeat (first | exact Below.refl _ _ | assumption | refine Below.drew ?_ | refine Bl.alloc ?_ _ | refine below_drewN ?_ _ | refine Bl.chain ?_ (by assumption) (Nat.le_refl _)))⟩
      unfold tplS
      rw [h0, h1]
      first | rfl | exact congrArg (fun b => Ending.returned (.string b)) (bapp _ _)
    case false =>
      cases h2 : (s.toList == [83, 84, 88])
      case true =>
        go_enter Tryd.func54, Tryd.ntmps54
        go_wp2_with fail
        refine Cl.p (hf _) ?_
        go_wp2_with fail
        go_ret
        refine ⟨?_, by (repeat (first | exact Below.refl _ _ | assumption | refine Below.drew ?_ | refine Bl.alloc ?_ _ | refine below_drewN ?_ _ | refine Bl.chain ?_ (by assumption) (Nat.le_refl _)))⟩
        unfold tplS
        rw [h0, h1, h2]
        first | rfl | exact congrArg (fun b => Ending.returned (.string b)) (bapp _ _)
      case false =>
        cases h3 : (s.toList == [83, 84, 89])
        case true =>
          go_enter Tryd.func54, Tryd.ntmps54
          go_wp2_with fail
          refine Cl.p (hf _) ?_
          go_wp2_with fail
          go_ret
          refine ⟨?_, by (repeat (first | exact Below.refl _ _ | assumption | refine Below.drew ?_ | refine Bl.alloc ?_ _ | refine below_drewN ?_ _ | refine Bl.chain ?_ (by assumption) (Nat.le_refl _)))⟩
          unfold tplS
          rw [h0, h1, h2, h3]
          first | rfl | exact congrArg (fun b => Ending.returned (.string b)) (bapp _ _)
        case false =>
          cases h4 : (s.toList == [83, 84, 90])
          case true =>
            go_enter Tryd.func54, Tryd.ntmps54
            go_wp2_with fail
            refine Cl.p (hf _) ?_
            go_wp2_with fail
            go_ret
            refine ⟨?_, by (repeat (first | exact Below.refl _ _ | assumption | refine Below.drew ?_ | refine Bl.alloc ?_ _ | refine below_drewN ?_ _ | refine Bl.chain ?_ (by assumption) (Nat.le_refl _)))⟩
            unfold tplS
            rw [h0, h1, h2, h3, h4]
            first | rfl | exact congrArg (fun b => Ending.returned (.string b)) (bapp _ _)
          case false =>
            cases h5 : (s.toList == [65, 83, 76])
            case true =>
              go_enter Tryd.func54, Tryd.ntmps54
              go_wp2_with fail
              go_ret
              refine ⟨?_, by (repeat (first | exact Below.refl _ _ | assumption | refine Below.drew ?_ | refine Bl.alloc ?_ _ | refine below_drewN ?_ _ | refine Bl.chain ?_ (by assumption) (Nat.le_refl _)))⟩
              unfold tplS
              rw [h0, h1, h2, h3, h4, h5]
              rfl
            case false =>
              cases h6 : (s.toList == [76, 83, 82])
              case true =>
                go_enter Tryd.func54, Tryd.ntmps54
                go_wp2_with fail
                go_ret
                refine ⟨?_, by (repeat (first | exact Below.refl _ _ | assumption | refine Below.drew ?_ | refine Bl.alloc ?_ _ | refine below_drewN ?_ _ | refine Bl.chain ?_ (by assumption) (Nat.le_refl _)))⟩
                unfold tplS
                rw [h0, h1, h2, h3, h4, h5, h6]
                rfl
              case false =>
                cases h7 : (s.toList == [82, 79, 76])
                case true =>
                  go_enter Tryd.func54, Tryd.ntmps54
                  go_wp2_with fail
                  go_ret
                  refine ⟨?_, by (repeat (first | exact Below.refl _ _ | assumption | refine Below.drew ?_ | refine Bl.alloc ?_ _ | refine below_drewN ?_ _ | refine Bl.chain ?_ (by assumption) (Nat.le_refl _)))⟩
                  unfold tplS
                  rw [h0, h1, h2, h3, h4, h5, h6, h7]
                  rfl
                case false =>
                  cases h8 : (s.toList == [82, 79, 82])
                  case true =>
                    go_enter Tryd.func54, Tryd.ntmps54
                    go_wp2_with fail
                    go_ret
                    refine ⟨?_, by (repeat (first | exact Below.refl _ _ | assumption | refine Below.drew ?_ | refine Bl.alloc ?_ _ | refine below_drewN ?_ _ | refine Bl.chain ?_ (by assumption) (Nat.le_refl _)))⟩
                    unfold tplS
                    rw [h0, h1, h2, h3, h4, h5, h6, h7, h8]
                    rfl
                  case false =>
                    cases h9 : (s.toList == [73, 78, 67])
                    case true =>
                      go_enter Tryd.func54, Tryd.ntmps54
                      go_wp2_with fail
                      go_ret
                      refine ⟨?_, by (repeat (first | exact Below.refl _ _ | assumption | refine Below.drew ?_ | refine Bl.alloc ?_ _ | refine below_drewN ?_ _ | refine Bl.chain ?_ (by assumption) (Nat.le_refl _)))⟩
                      unfold tplS
                      rw [h0, h1, h2, h3, h4, h5, h6, h7, h8, h9]
                      rfl
                    case false =>
                      cases h10 : (s.toList == [68, 69, 67])
                      case true =>
                        go_enter Tryd.func54, Tryd.ntmps54
                        go_wp2_with fail
                        go_ret
                        refine ⟨?_, by (repeat (first | exact Below.refl _ _ | assumption | refine Below.drew ?_ | refine Bl.alloc ?_ _ | refine below_drewN ?_ _ | refine Bl.chain ?_ (by assumption) (Nat.le_refl _)))⟩
                        unfold tplS
                        rw [h0, h1, h2, h3, h4, h5, h6, h7, h8, h9, h10]
                        rfl
                      case false =>
                        cases h11 : (s.toList == [84, 83, 66])
                        case true =>
                          go_enter Tryd.func54, Tryd.ntmps54
                          go_wp2_with fail
                          go_ret
                          refine ⟨?_, by (repeat (first | exact Below.refl _ _ | assumption | refine Below.drew ?_ | refine Bl.alloc ?_ _ | refine below_drewN ?_ _ | refine Bl.chain ?_ (by assumption) (Nat.le_refl _)))⟩
                          unfold tplS
                          rw [h0, h1, h2, h3, h4, h5, h6, h7, h8, h9, h10, h11]
                          rfl
                        case false =>
                          cases h12 : (s.toList == [84, 82, 66])
                          case true =>
                            go_enter Tryd.func54, Tryd.ntmps54
                            go_wp2_with fail
                            go_ret
                            refine ⟨?_, by (repeat (first | exact Below.refl _ _ | assumption | refine Below.drew ?_ | refine Bl.alloc ?_ _ | refine below_drewN ?_ _ | refine Bl.chain ?_ (by assumption) (Nat.le_refl _)))⟩
                            unfold tplS
                            rw [h0, h1, h2, h3, h4, h5, h6, h7, h8, h9, h10, h11, h12]
                            rfl
                          case false =>
                            by_cases hq12 : q = 12
                            · subst hq12
                              go_enter Tryd.func54, Tryd.ntmps54
                              go_wp2_with fail
                              go_ret
                              refine ⟨?_, by (repeat (first | exact Below.refl _ _ | assumption | refine Below.drew ?_ | refine Bl.alloc ?_ _ | refine below_drewN ?_ _ | refine Bl.chain ?_ (by assumption) (Nat.le_refl _)))⟩
                              unfold tplS
                              rw [h0, h1, h2, h3, h4, h5, h6, h7, h8, h9, h10, h11, h12]
                              rfl
                            · have n12 : ((q : Int) == 12) = false := by rw [beq_eq_false_iff_ne]; omega
                              by_cases hs3 : 3 < s.size
                              · have i3 : (3 : Int) < (s.size : Int) := by omega
                                go_enter Tryd.func54, Tryd.ntmps54
                                go_wp2_with fail
                                go_ret
                                refine ⟨?_, by (repeat (first | exact Below.refl _ _ | assumption | refine Below.drew ?_ | refine Bl.alloc ?_ _ | refine below_drewN ?_ _ | refine Bl.chain ?_ (by assumption) (Nat.le_refl _)))⟩
                                unfold tplS
                                rw [h0, h1, h2, h3, h4, h5, h6, h7, h8, h9, h10, h11, h12, if_neg hq12, if_pos hs3]
                                rfl
                              · have i3 : (decide ((3 : Int) < (s.size : Int))) = false := decide_eq_false (by omega)
                                have i4 : (decide (3 < s.size)) = false := decide_eq_false hs3
                                go_enter Tryd.func54, Tryd.ntmps54
                                go_wp2_with fail
                                refine Cl.p (hf _) ?_
                                go_wp2_with fail
                                go_ret
                                refine ⟨?_, by (repeat (first | exact Below.refl _ _ | assumption | refine Below.drew ?_ | refine Bl.alloc ?_ _ | refine below_drewN ?_ _ | refine Bl.chain ?_ (by assumption) (Nat.le_refl _)))⟩
                                unfold tplS
                                rw [h0, h1, h2, h3, h4, h5, h6, h7, h8, h9, h10, h11, h12, if_neg hq12, if_neg hs3]
                                first | rfl | exact congrArg (fun b => Ending.returned (.string b)) (bapp _ _)
theorem tplS_le (s : ByteArray) (q : Nat) : (tplS s q).length ≤ 6 := by
  unfold tplS
  have h1 := tfnS_le q
  repeat' split
  all_goals (first | decide | (simp only [List.length_append, List.length_cons, List.length_nil]; omega))
def tlgS (s : ByteArray) (q : Nat) : List UInt8 := if ((s.toList == [65, 68, 67]) || (s.toList == [83, 66, 67])) = true then (if ((s.toList == [65, 78, 68]) || (s.toList == [79, 82, 65]) || (s.toList == [69, 79, 82]) || (s.toList == [65, 68, 67])) = true then [76, 68, 83] else []) ++ [68] else if q = 12 ∨ (q = 11 ∧ (s.toList == [66, 82, 65]) = false ∧ (s.toList == [66, 83, 82]) = false) then (if ((s.toList == [65, 78, 68]) || (s.toList == [79, 82, 65]) || (s.toList == [69, 79, 82]) || (s.toList == [65, 68, 67])) = true then [76, 68, 83] else []) ++ [68, 68] else (if ((s.toList == [65, 78, 68]) || (s.toList == [79, 82, 65]) || (s.toList == [69, 79, 82]) || (s.toList == [65, 68, 67])) = true then [76, 68, 83] else [])
theorem tlgS_le (s : ByteArray) (q : Nat) : (tlgS s q).length ≤ 5 := by
  unfold tlgS
  repeat' split
  all_goals decide
set_option maxHeartbeats 8000000 in
theorem tlg_calls (s : ByteArray) (q : Nat) (z cy : Int) (w : World) (hq : q < 20) : Calls Tryd.prog 33 #[.agg #[.string s, .int .u8 (q : Int), .int .i64 z, .int .i64 cy], .agg #[.bool true, .bool true, .bool true, .int .i64 0]] w fun e w' => e = .returned (.string ⟨(tlgS s q).toArray⟩) ∧ Below w.heap.size w w' := by
  have hq3 : q = 12 ∨ q = 11 ∨ (q ≠ 12 ∧ q ≠ 11) := by omega
  cases h0 : (s.toList == [65, 78, 68])
  case true =>
    have e := eq_of_beq h0
    have h1 : (s.toList == [79, 82, 65]) = false := by rw [e]; decide
    have h2 : (s.toList == [69, 79, 82]) = false := by rw [e]; decide
    have h3 : (s.toList == [65, 68, 67]) = false := by rw [e]; decide
    have h4 : (s.toList == [83, 66, 67]) = false := by rw [e]; decide
    have h5 : (s.toList == [66, 82, 65]) = false := by rw [e]; decide
    have h6 : (s.toList == [66, 83, 82]) = false := by rw [e]; decide
    clear e
    rcases hq3 with rfl | rfl | ⟨q1, q2⟩
    · go_enter Tryd.func33, Tryd.ntmps33
      go_wp2_with fail
      go_ret
      refine ⟨?_, by (repeat (first | exact Below.refl _ _ | assumption | refine Below.drew ?_ | refine Bl.alloc ?_ _ | refine below_drewN ?_ _ | refine Bl.chain ?_ (by assumption) (Nat.le_refl _)))⟩
      unfold tlgS
      rw [h0, h1, h2, h3, h4, h5, h6]
      rfl
    · go_enter Tryd.func33, Tryd.ntmps33
      go_wp2_with fail
      go_ret
      refine ⟨?_, by (repeat (first | exact Below.refl _ _ | assumption | refine Below.drew ?_ | refine Bl.alloc ?_ _ | refine below_drewN ?_ _ | refine Bl.chain ?_ (by assumption) (Nat.le_refl _)))⟩
      unfold tlgS
      rw [h0, h1, h2, h3, h4, h5, h6]
      rfl
    · have n1 : ((q : Int) == 12) = false := by rw [beq_eq_false_iff_ne]; omega
      have n2 : ((q : Int) == 11) = false := by rw [beq_eq_false_iff_ne]; omega
      go_enter Tryd.func33, Tryd.ntmps33
      go_wp2_with fail
      go_ret
      refine ⟨?_, by (repeat (first | exact Below.refl _ _ | assumption | refine Below.drew ?_ | refine Bl.alloc ?_ _ | refine below_drewN ?_ _ | refine Bl.chain ?_ (by assumption) (Nat.le_refl _)))⟩
      unfold tlgS
      rw [h0, h1, h2, h3, h4, h5, h6]
      rw [if_neg (show ¬ (q = 12 ∨ (q = 11 ∧ _)) from fun hh => hh.elim q1 (fun hh => q2 hh.1))]
      rfl
  case false =>
    cases h1 : (s.toList == [79, 82, 65])
    case true =>
      have e := eq_of_beq h1
      have h2 : (s.toList == [69, 79, 82]) = false := by rw [e]; decide
      have h3 : (s.toList == [65, 68, 67]) = false := by rw [e]; decide
      have h4 : (s.toList == [83, 66, 67]) = false := by rw [e]; decide
      have h5 : (s.toList == [66, 82, 65]) = false := by rw [e]; decide
      have h6 : (s.toList == [66, 83, 82]) = false := by rw [e]; decide
      clear e
      rcases hq3 with rfl | rfl | ⟨q1, q2⟩
      · go_enter Tryd.func33, Tryd.ntmps33
        go_wp2_with fail
        go_ret
        refine ⟨?_, by (repeat (first | exact Below.refl _ _ | assumption | refine Below.drew ?_ | refine Bl.alloc ?_ _ | refine below_drewN ?_ _ | refine Bl.chain ?_ (by assumption) (Nat.le_refl _)))⟩
        unfold tlgS
        rw [h0, h1, h2, h3, h4, h5, h6]
        rfl
      · go_enter Tryd.func33, Tryd.ntmps33
        go_wp2_with fail
        go_ret
        refine ⟨?_, by (repeat (first | exact Below.refl _ _ | assumption | refine Below.drew ?_ | refine Bl.alloc ?_ _ | refine below_drewN ?_ _ | refine Bl.chain ?_ (by assumption) (Nat.le_refl _)))⟩
        unfold tlgS
        rw [h0, h1, h2, h3, h4, h5, h6]
        rfl
      · have n1 : ((q : Int) == 12) = false := by rw [beq_eq_false_iff_ne]; omega
        have n2 : ((q : Int) == 11) = false := by rw [beq_eq_false_iff_ne]; omega
        go_enter Tryd.func33, Tryd.ntmps33
        go_wp2_with fail
        go_ret
        refine ⟨?_, by (repeat (first | exact Below.refl _ _ | assumption | refine Below.drew ?_ | refine Bl.alloc ?_ _ | refine below_drewN ?_ _ | refine Bl.chain ?_ (by assumption) (Nat.le_refl _)))⟩
        unfold tlgS
        rw [h0, h1, h2, h3, h4, h5, h6]
        rw [if_neg (show ¬ (q = 12 ∨ (q = 11 ∧ _)) from fun hh => hh.elim q1 (fun hh => q2 hh.1))]
        rfl
    case false =>
      cases h2 : (s.toList == [69, 79, 82])
      case true =>
        have e := eq_of_beq h2
        have h3 : (s.toList == [65, 68, 67]) = false := by rw [e]; decide
        have h4 : (s.toList == [83, 66, 67]) = false := by rw [e]; decide
        have h5 : (s.toList == [66, 82, 65]) = false := by rw [e]; decide
        have h6 : (s.toList == [66, 83, 82]) = false := by rw [e]; decide
        clear e
        rcases hq3 with rfl | rfl | ⟨q1, q2⟩
        · go_enter Tryd.func33, Tryd.ntmps33
          go_wp2_with fail
          go_ret
          refine ⟨?_, by (repeat (first | exact Below.refl _ _ | assumption | refine Below.drew ?_ | refine Bl.alloc ?_ _ | refine below_drewN ?_ _ | refine Bl.chain ?_ (by assumption) (Nat.le_refl _)))⟩
          unfold tlgS
          rw [h0, h1, h2, h3, h4, h5, h6]
          rfl
        · go_enter Tryd.func33, Tryd.ntmps33
          go_wp2_with fail
          go_ret
          refine ⟨?_, by (repeat (first | exact Below.refl _ _ | assumption | refine Below.drew ?_ | refine Bl.alloc ?_ _ | refine below_drewN ?_ _ | refine Bl.chain ?_ (by assumption) (Nat.le_refl _)))⟩
          unfold tlgS
          rw [h0, h1, h2, h3, h4, h5, h6]
          rfl
        · have n1 : ((q : Int) == 12) = false := by rw [beq_eq_false_iff_ne]; omega
          have n2 : ((q : Int) == 11) = false := by rw [beq_eq_false_iff_ne]; omega
          go_enter Tryd.func33, Tryd.ntmps33
          go_wp2_with fail
          go_ret
          refine ⟨?_, by (repeat (first | exact Below.refl _ _ | assumption | refine Below.drew ?_ | refine Bl.alloc ?_ _ | refine below_drewN ?_ _ | refine Bl.chain ?_ (by assumption) (Nat.le_refl _)))⟩
          unfold tlgS
          rw [h0, h1, h2, h3, h4, h5, h6]
          rw [if_neg (show ¬ (q = 12 ∨ (q = 11 ∧ _)) from fun hh => hh.elim q1 (fun hh => q2 hh.1))]
          rfl
      case false =>
        cases h3 : (s.toList == [65, 68, 67])
        case true =>
          have e := eq_of_beq h3
          have h4 : (s.toList == [83, 66, 67]) = false := by rw [e]; decide
          have h5 : (s.toList == [66, 82, 65]) = false := by rw [e]; decide
          have h6 : (s.toList == [66, 83, 82]) = false := by rw [e]; decide
          clear e
          rcases hq3 with rfl | rfl | ⟨q1, q2⟩
          · go_enter Tryd.func33, Tryd.ntmps33
            go_wp2_with fail
            go_ret
            refine ⟨?_, by (repeat (first | exact Below.refl _ _ | assumption | refine Below.drew ?_ | refine Bl.alloc ?_ _ | refine below_drewN ?_ _ | refine Bl.chain ?_ (by assumption) (Nat.le_refl _)))⟩
            unfold tlgS
            rw [h0, h1, h2, h3, h4, h5, h6]
            rfl
          · go_enter Tryd.func33, Tryd.ntmps33
            go_wp2_with fail
            go_ret
            refine ⟨?_, by (repeat (first | exact Below.refl _ _ | assumption | refine Below.drew ?_ | refine Bl.alloc ?_ _ | refine below_drewN ?_ _ | refine Bl.chain ?_ (by assumption) (Nat.le_refl _)))⟩
            unfold tlgS
            rw [h0, h1, h2, h3, h4, h5, h6]
            rfl
          · have n1 : ((q : Int) == 12) = false := by rw [beq_eq_false_iff_ne]; omega
            have n2 : ((q : Int) == 11) = false := by rw [beq_eq_false_iff_ne]; omega
            go_enter Tryd.func33, Tryd.ntmps33
            go_wp2_with fail
            go_ret
            refine ⟨?_, by (repeat (first | exact Below.refl _ _ | assumption | refine Below.drew ?_ | refine Bl.alloc ?_ _ | refine below_drewN ?_ _ | refine Bl.chain ?_ (by assumption) (Nat.le_refl _)))⟩
            unfold tlgS
            rw [h0, h1, h2, h3, h4, h5, h6]
            rw [if_neg (show ¬ (q = 12 ∨ (q = 11 ∧ _)) from fun hh => hh.elim q1 (fun hh => q2 hh.1))]
            rfl
        case false =>
          cases h4 : (s.toList == [83, 66, 67])
          case true =>
            have e := eq_of_beq h4
            have h5 : (s.toList == [66, 82, 65]) = false := by rw [e]; decide
            have h6 : (s.toList == [66, 83, 82]) = false := by rw [e]; decide
            clear e
            rcases hq3 with rfl | rfl | ⟨q1, q2⟩
            · go_enter Tryd.func33, Tryd.ntmps33
              go_wp2_with fail
              go_ret
              refine ⟨?_, by (repeat (first | exact Below.refl _ _ | assumption | refine Below.drew ?_ | refine Bl.alloc ?_ _ | refine below_drewN ?_ _ | refine Bl.chain ?_ (by assumption) (Nat.le_refl _)))⟩
              unfold tlgS
              rw [h0, h1, h2, h3, h4, h5, h6]
              rfl
            · go_enter Tryd.func33, Tryd.ntmps33
              go_wp2_with fail
              go_ret
              refine ⟨?_, by (repeat (first | exact Below.refl _ _ | assumption | refine Below.drew ?_ | refine Bl.alloc ?_ _ | refine below_drewN ?_ _ | refine Bl.chain ?_ (by assumption) (Nat.le_refl _)))⟩
              unfold tlgS
              rw [h0, h1, h2, h3, h4, h5, h6]
              rfl
            · have n1 : ((q : Int) == 12) = false := by rw [beq_eq_false_iff_ne]; omega
              have n2 : ((q : Int) == 11) = false := by rw [beq_eq_false_iff_ne]; omega
              go_enter Tryd.func33, Tryd.ntmps33
              go_wp2_with fail
              go_ret
              refine ⟨?_, by (repeat (first | exact Below.refl _ _ | assumption | refine Below.drew ?_ | refine Bl.alloc ?_ _ | refine below_drewN ?_ _ | refine Bl.chain ?_ (by assumption) (Nat.le_refl _)))⟩
              unfold tlgS
              rw [h0, h1, h2, h3, h4, h5, h6]
              rw [if_neg (show ¬ (q = 12 ∨ (q = 11 ∧ _)) from fun hh => hh.elim q1 (fun hh => q2 hh.1))]
              rfl
          case false =>
            cases h5 : (s.toList == [66, 82, 65])
            case true =>
              have e := eq_of_beq h5
              have h6 : (s.toList == [66, 83, 82]) = false := by rw [e]; decide
              clear e
              rcases hq3 with rfl | rfl | ⟨q1, q2⟩
              · go_enter Tryd.func33, Tryd.ntmps33
                go_wp2_with fail
                go_ret
                refine ⟨?_, by (repeat (first | exact Below.refl _ _ | assumption | refine Below.drew ?_ | refine Bl.alloc ?_ _ | refine below_drewN ?_ _ | refine Bl.chain ?_ (by assumption) (Nat.le_refl _)))⟩
                unfold tlgS
                rw [h0, h1, h2, h3, h4, h5, h6]
                rfl
              · go_enter Tryd.func33, Tryd.ntmps33
                go_wp2_with fail
                go_ret
                refine ⟨?_, by (repeat (first | exact Below.refl _ _ | assumption | refine Below.drew ?_ | refine Bl.alloc ?_ _ | refine below_drewN ?_ _ | refine Bl.chain ?_ (by assumption) (Nat.le_refl _)))⟩
                unfold tlgS
                rw [h0, h1, h2, h3, h4, h5, h6]
                rfl
              · have n1 : ((q : Int) == 12) = false := by rw [beq_eq_false_iff_ne]; omega
                have n2 : ((q : Int) == 11) = false := by rw [beq_eq_false_iff_ne]; omega
                go_enter Tryd.func33, Tryd.ntmps33
                go_wp2_with fail
                go_ret
                refine ⟨?_, by (repeat (first | exact Below.refl _ _ | assumption | refine Below.drew ?_ | refine Bl.alloc ?_ _ | refine below_drewN ?_ _ | refine Bl.chain ?_ (by assumption) (Nat.le_refl _)))⟩
                unfold tlgS
                rw [h0, h1, h2, h3, h4, h5, h6]
                rw [if_neg (show ¬ (q = 12 ∨ (q = 11 ∧ _)) from fun hh => hh.elim q1 (fun hh => q2 hh.1))]
                rfl
            case false =>
              cases h6 : (s.toList == [66, 83, 82])
              case true =>
                have e := eq_of_beq h6
                clear e
                rcases hq3 with rfl | rfl | ⟨q1, q2⟩
                · go_enter Tryd.func33, Tryd.ntmps33
                  go_wp2_with fail
                  go_ret
                  refine ⟨?_, by (repeat (first | exact Below.refl _ _ | assumption | refine Below.drew ?_ | refine Bl.alloc ?_ _ | refine below_drewN ?_ _ | refine Bl.chain ?_ (by assumption) (Nat.le_refl _)))⟩
                  unfold tlgS
                  rw [h0, h1, h2, h3, h4, h5, h6]
                  rfl
                · go_enter Tryd.func33, Tryd.ntmps33
                  go_wp2_with fail
                  go_ret
                  refine ⟨?_, by (repeat (first | exact Below.refl _ _ | assumption | refine Below.drew ?_ | refine Bl.alloc ?_ _ | refine below_drewN ?_ _ | refine Bl.chain ?_ (by assumption) (Nat.le_refl _)))⟩
                  unfold tlgS
                  rw [h0, h1, h2, h3, h4, h5, h6]
                  rfl
                · have n1 : ((q : Int) == 12) = false := by rw [beq_eq_false_iff_ne]; omega
                  have n2 : ((q : Int) == 11) = false := by rw [beq_eq_false_iff_ne]; omega
                  go_enter Tryd.func33, Tryd.ntmps33
                  go_wp2_with fail
                  go_ret
                  refine ⟨?_, by (repeat (first | exact Below.refl _ _ | assumption | refine Below.drew ?_ | refine Bl.alloc ?_ _ | refine below_drewN ?_ _ | refine Bl.chain ?_ (by assumption) (Nat.le_refl _)))⟩
                  unfold tlgS
                  rw [h0, h1, h2, h3, h4, h5, h6]
                  rw [if_neg (show ¬ (q = 12 ∨ (q = 11 ∧ _)) from fun hh => hh.elim q1 (fun hh => q2 hh.1))]
                  rfl
              case false =>
                rcases hq3 with rfl | rfl | ⟨q1, q2⟩
                · go_enter Tryd.func33, Tryd.ntmps33
                  go_wp2_with fail
                  go_ret
                  refine ⟨?_, by (repeat (first | exact Below.refl _ _ | assumption | refine Below.drew ?_ | refine Bl.alloc ?_ _ | refine below_drewN ?_ _ | refine Bl.chain ?_ (by assumption) (Nat.le_refl _)))⟩
                  unfold tlgS
                  rw [h0, h1, h2, h3, h4, h5, h6]
                  rfl
                · go_enter Tryd.func33, Tryd.ntmps33
                  go_wp2_with fail
                  go_ret
                  refine ⟨?_, by (repeat (first | exact Below.refl _ _ | assumption | refine Below.drew ?_ | refine Bl.alloc ?_ _ | refine below_drewN ?_ _ | refine Bl.chain ?_ (by assumption) (Nat.le_refl _)))⟩
                  unfold tlgS
                  rw [h0, h1, h2, h3, h4, h5, h6]
                  rfl
                · have n1 : ((q : Int) == 12) = false := by rw [beq_eq_false_iff_ne]; omega
                  have n2 : ((q : Int) == 11) = false := by rw [beq_eq_false_iff_ne]; omega
                  go_enter Tryd.func33, Tryd.ntmps33
                  go_wp2_with fail
                  go_ret
                  refine ⟨?_, by (repeat (first | exact Below.refl _ _ | assumption | refine Below.drew ?_ | refine Bl.alloc ?_ _ | refine below_drewN ?_ _ | refine Bl.chain ?_ (by assumption) (Nat.le_refl _)))⟩
                  unfold tlgS
                  rw [h0, h1, h2, h3, h4, h5, h6]
                  rw [if_neg (show ¬ (q = 12 ∨ (q = 11 ∧ _)) from fun hh => hh.elim q1 (fun hh => q2 hh.1))]
                  rfl
end Go.Proofs.YtodimiffmmkndaaDoor
