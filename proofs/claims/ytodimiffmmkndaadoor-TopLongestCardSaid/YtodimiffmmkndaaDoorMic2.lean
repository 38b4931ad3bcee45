/-
  Package micro: find, stack, longer.
-/
import Derived.Test.YtodimiffmmkndaaDoorMic1
namespace Go.Proofs.YtodimiffmmkndaaDoor
set_option linter.unusedSimpArgs false
set_option linter.unusedVariables false
set_option maxRecDepth 10000
open Go.RowKit Go.Shelf Pl
theorem jn2_calls (bk : Nat) (x y : List UInt8) (w : World) (hB : Blk w bk 9 #[.string ⟨x.toArray⟩, .string ⟨y.toArray⟩]) (hx : x.length ≤ 400) (hy : y.length ≤ 400) :
    Calls Tryd.prog 24 #[.slice (some ⟨bk, 0, none⟩) 2 2] w fun e w' => e = .returned (.string ⟨(jn [x, y]).toArray⟩) ∧ Below w.heap.size w w' :=
  jn_calls bk 2 [x, y] w (fun j z hj => by
    rw [hB.cell]
    match j, hj with
    | 0, hj => obtain rfl := Option.some.inj hj; rfl
    | 1, hj => obtain rfl := Option.some.inj hj; rfl
    | n + 2, hj => simp at hj) (show 2 ≤ 8 by omega) (fun z hz => by
    rcases List.mem_cons.1 hz with rfl | hz
    · exact hx
    · rcases List.mem_cons.1 hz with rfl | hz
      · exact hy
      · cases hz)
theorem jn3_calls (bk : Nat) (x y u : List UInt8) (w : World) (hB : Blk w bk 9 #[.string ⟨x.toArray⟩, .string ⟨y.toArray⟩, .string ⟨u.toArray⟩]) (hx : x.length ≤ 400) (hy : y.length ≤ 400) (hu : u.length ≤ 400) :
    Calls Tryd.prog 24 #[.slice (some ⟨bk, 0, none⟩) 3 3] w fun e w' => e = .returned (.string ⟨(jn [x, y, u]).toArray⟩) ∧ Below w.heap.size w w' :=
  jn_calls bk 3 [x, y, u] w (fun j z hj => by
    rw [hB.cell]
    match j, hj with
    | 0, hj => obtain rfl := Option.some.inj hj; rfl
    | 1, hj => obtain rfl := Option.some.inj hj; rfl
    | 2, hj => obtain rfl := Option.some.inj hj; rfl
    | n + 3, hj => simp at hj) (show 3 ≤ 8 by omega) (fun z hz => by
    rcases List.mem_cons.1 hz with rfl | hz
    · exact hx
    · rcases List.mem_cons.1 hz with rfl | hz
      · exact hy
      · rcases List.mem_cons.1 hz with rfl | hz
        · exact hu
        · cases hz)
/-- How a place is found. -/
def fndS (q : Nat) : List UInt8 := if q = 8 ∨ q = 9 ∨ q = 10 then [68, 46, 46, 46, 32, 76, 108, 46, 46, 32, 76, 104, 46, 46, 32, 68, 46, 46, 46] else [68, 46, 46, 46]
theorem fnd_calls (q : Nat) (w : World) (hq : q < 20) : Calls Tryd.prog 49 #[.int .u8 (q : Int)] w fun e w' => e = .returned (.string ⟨(fndS q).toArray⟩) ∧ w = w' := by
  have h : q = 0 ∨ q = 1 ∨ q = 2 ∨ q = 3 ∨ q = 4 ∨ q = 5 ∨ q = 6 ∨ q = 7 ∨ q = 8 ∨ q = 9 ∨ q = 10 ∨ q = 11 ∨ q = 12 ∨ q = 13 ∨ q = 14 ∨ q = 15 ∨ q = 16 ∨ q = 17 ∨ q = 18 ∨ q = 19 := by omega
  rcases h with rfl | rfl | rfl | rfl | rfl | rfl | rfl | rfl | rfl | rfl | rfl | rfl | rfl | rfl | rfl | rfl | rfl | rfl | rfl | rfl
  all_goals
    go_enter Tryd.func49, Tryd.ntmps49
    go_wp2_with fail
    go_ret
    exact ⟨rfl, rfl⟩
def stkS (s : ByteArray) : List UInt8 × Bool := if ((s.toList == [80, 72, 65]) || (s.toList == [80, 72, 88]) || (s.toList == [80, 72, 89])) = true then ([68, 46, 46, 46, 32, 80, 115, 46, 46], true) else if ((s.toList == [80, 72, 80])) = true then ([68, 46, 46, 46, 32, 80, 102, 46, 46], true) else if ((s.toList == [80, 76, 65]) || (s.toList == [80, 76, 88]) || (s.toList == [80, 76, 89]) || (s.toList == [80, 76, 80])) = true then ([68, 46, 46, 46, 32, 68, 46, 46, 46, 32, 85, 118, 46, 33], true) else if ((s.toList == [82, 84, 83])) = true then ([68, 46, 46, 46, 32, 68, 46, 46, 46, 32, 85, 108, 46, 46, 32, 85, 104, 46, 46, 32, 68, 46, 46, 46, 32, 68, 46, 46, 33], true) else if ((s.toList == [82, 84, 73])) = true then ([68, 46, 46, 46, 32, 68, 46, 46, 46, 32, 85, 102, 46, 46, 32, 85, 108, 46, 46, 32, 85, 104, 46, 46, 32, 68, 46, 46, 33], true) else if ((s.toList == [66, 82, 75])) = true then ([80, 104, 46, 46, 32, 80, 108, 46, 46, 32, 80, 102, 46, 46, 32, 86, 108, 46, 46, 32, 86, 104, 46, 46, 32, 68, 46, 46, 33], true) else if ((s.toList == [66, 83, 82])) = true then ([68, 46, 46, 46, 32, 80, 72, 46, 46, 32, 80, 76, 46, 46, 32, 68, 46, 46, 46, 32, 68, 46, 46, 46, 32, 68, 46, 46, 33], true) else if ((s.toList == [74, 83, 82])) = true then ([68, 46, 46, 46, 32, 80, 72, 46, 46, 32, 80, 76, 46, 46, 32, 68, 46, 46, 33], true) else ([], false)
set_option maxHeartbeats 4000000 in
theorem stk_calls (s : ByteArray) (w : World) : Calls Tryd.prog 22 #[.string s] w fun e w' => e = .returned (.tuple #[.string ⟨(stkS s).1.toArray⟩, .bool (stkS s).2]) ∧ w = w' := by
  cases h0 : (s.toList == [80, 72, 65])
  case true =>
    go_enter Tryd.func22, Tryd.ntmps22
    go_wp2_with fail
    go_ret2
    refine ⟨?_, rfl⟩
    unfold stkS
    rw [h0]
    rfl
  case false =>
    cases h1 : (s.toList == [80, 72, 88])
    case true =>
      go_enter Tryd.func22, Tryd.ntmps22
      go_wp2_with fail
      go_ret2
      refine ⟨?_, rfl⟩
      unfold stkS
      rw [h0, h1]
      rfl
    case false =>
      cases h2 : (s.toList == [80, 72, 89])
      case true =>
        go_enter Tryd.func22, Tryd.ntmps22
        go_wp2_with fail
        go_ret2
        refine ⟨?_, rfl⟩
        unfold stkS
        rw [h0, h1, h2]
        rfl
      case false =>
        cases h3 : (s.toList == [80, 72, 80])
        case true =>
          go_enter Tryd.func22, Tryd.ntmps22
          go_wp2_with fail
          go_ret2
          refine ⟨?_, rfl⟩
          unfold stkS
          rw [h0, h1, h2, h3]
          rfl
        case false =>
          cases h4 : (s.toList == [80, 76, 65])
          case true =>
            go_enter Tryd.func22, Tryd.ntmps22
            go_wp2_with fail
            go_ret2
            refine ⟨?_, rfl⟩
            unfold stkS
            rw [h0, h1, h2, h3, h4]
            rfl
          case false =>
            cases h5 : (s.toList == [80, 76, 88])
            case true =>
              go_enter Tryd.func22, Tryd.ntmps22
              go_wp2_with fail
              go_ret2
              refine ⟨?_, rfl⟩
              unfold stkS
              rw [h0, h1, h2, h3, h4, h5]
              rfl
            case false =>
              cases h6 : (s.toList == [80, 76, 89])
              case true =>
                go_enter Tryd.func22, Tryd.ntmps22
                go_wp2_with fail
                go_ret2
                refine ⟨?_, rfl⟩
                unfold stkS
                rw [h0, h1, h2, h3, h4, h5, h6]
                rfl
              case false =>
                cases h7 : (s.toList == [80, 76, 80])
                case true =>
                  go_enter Tryd.func22, Tryd.ntmps22
                  go_wp2_with fail
                  go_ret2
                  refine ⟨?_, rfl⟩
                  unfold stkS
                  rw [h0, h1, h2, h3, h4, h5, h6, h7]
                  rfl
                case false =>
                  cases h8 : (s.toList == [82, 84, 83])
                  case true =>
                    go_enter Tryd.func22, Tryd.ntmps22
                    go_wp2_with fail
                    go_ret2
                    refine ⟨?_, rfl⟩
                    unfold stkS
                    rw [h0, h1, h2, h3, h4, h5, h6, h7, h8]
                    rfl
                  case false =>
                    cases h9 : (s.toList == [82, 84, 73])
                    case true =>
                      go_enter Tryd.func22, Tryd.ntmps22
                      go_wp2_with fail
                      go_ret2
                      refine ⟨?_, rfl⟩
                      unfold stkS
                      rw [h0, h1, h2, h3, h4, h5, h6, h7, h8, h9]
                      rfl
                    case false =>
                      cases h10 : (s.toList == [66, 82, 75])
                      case true =>
                        go_enter Tryd.func22, Tryd.ntmps22
                        go_wp2_with fail
                        go_ret2
                        refine ⟨?_, rfl⟩
                        unfold stkS
                        rw [h0, h1, h2, h3, h4, h5, h6, h7, h8, h9, h10]
                        rfl
                      case false =>
                        cases h11 : (s.toList == [66, 83, 82])
                        case true =>
                          go_enter Tryd.func22, Tryd.ntmps22
                          go_wp2_with fail
                          go_ret2
                          refine ⟨?_, rfl⟩
                          unfold stkS
                          rw [h0, h1, h2, h3, h4, h5, h6, h7, h8, h9, h10, h11]
                          rfl
                        case false =>
                          cases h12 : (s.toList == [74, 83, 82])
                          case true =>
                            go_enter Tryd.func22, Tryd.ntmps22
                            go_wp2_with fail
                            go_ret2
                            refine ⟨?_, rfl⟩
                            unfold stkS
                            rw [h0, h1, h2, h3, h4, h5, h6, h7, h8, h9, h10, h11, h12]
                            rfl
                          case false =>
                            go_enter Tryd.func22, Tryd.ntmps22
                            go_wp2_with fail
                            go_ret2
                            refine ⟨?_, rfl⟩
                            unfold stkS
                            rw [h0, h1, h2, h3, h4, h5, h6, h7, h8, h9, h10, h11, h12]
                            rfl
def lgrS (s : ByteArray) : List UInt8 := if ((s.toList == [83, 66, 67])) = true then [68, 46, 68, 46] else if ((s.toList == [65, 68, 67])) = true then [76, 120, 84, 46, 32, 68, 46, 84, 33, 32, 83, 120, 84, 46, 32, 68, 46, 68, 46] else if ((s.toList == [65, 78, 68]) || (s.toList == [79, 82, 65]) || (s.toList == [69, 79, 82])) = true then [76, 120, 84, 46, 32, 68, 46, 84, 33, 32, 83, 120, 84, 46] else []
theorem lgr_calls (s : ByteArray) (w : World) : Calls Tryd.prog 27 #[.string s] w fun e w' => e = .returned (.string ⟨(lgrS s).toArray⟩) ∧ w = w' := by
  cases h0 : (s.toList == [83, 66, 67])
  case true =>
    go_enter Tryd.func27, Tryd.ntmps27
    go_wp2_with fail
    go_ret
    refine ⟨?_, rfl⟩
    unfold lgrS
    rw [h0]
    rfl
  case false =>
    cases h1 : (s.toList == [65, 68, 67])
    case true =>
      go_enter Tryd.func27, Tryd.ntmps27
      go_wp2_with fail
      go_ret
      refine ⟨?_, rfl⟩
      unfold lgrS
      rw [h0, h1]
      rfl
    case false =>
      cases h2 : (s.toList == [65, 78, 68])
      case true =>
        go_enter Tryd.func27, Tryd.ntmps27
        go_wp2_with fail
        go_ret
        refine ⟨?_, rfl⟩
        unfold lgrS
        rw [h0, h1, h2]
        rfl
      case false =>
        cases h3 : (s.toList == [79, 82, 65])
        case true =>
          go_enter Tryd.func27, Tryd.ntmps27
          go_wp2_with fail
          go_ret
          refine ⟨?_, rfl⟩
          unfold lgrS
          rw [h0, h1, h2, h3]
          rfl
        case false =>
          cases h4 : (s.toList == [69, 79, 82])
          case true =>
            go_enter Tryd.func27, Tryd.ntmps27
            go_wp2_with fail
            go_ret
            refine ⟨?_, rfl⟩
            unfold lgrS
            rw [h0, h1, h2, h3, h4]
            rfl
          case false =>
            go_enter Tryd.func27, Tryd.ntmps27
            go_wp2_with fail
            go_ret
            refine ⟨?_, rfl⟩
            unfold lgrS
            rw [h0, h1, h2, h3, h4]
            rfl
end Go.Proofs.YtodimiffmmkndaaDoor
