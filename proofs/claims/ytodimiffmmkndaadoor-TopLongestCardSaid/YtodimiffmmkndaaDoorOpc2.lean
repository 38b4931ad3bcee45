/-
  Package opcode: the switches on a name.
-/
import Derived.Test.YtodimiffmmkndaaDoorOpc1
namespace Go.Proofs.YtodimiffmmkndaaDoor
set_option linter.unusedSimpArgs false
set_option linter.unusedVariables false
set_option maxRecDepth 10000
open Go.RowKit Pl
def chgS (s : ByteArray) : Bool := if ((s.toList == [65, 83, 76]) || (s.toList == [76, 83, 82]) || (s.toList == [82, 79, 76]) || (s.toList == [82, 79, 82]) || (s.toList == [73, 78, 67]) || (s.toList == [68, 69, 67]) || (s.toList == [84, 83, 66]) || (s.toList == [84, 82, 66])) = true then true else false
theorem chgS_calls (s : ByteArray) (w : World) : Calls Tryd.prog 63 #[.string s] w fun e w' => e = .returned (.bool (chgS s)) ∧ w = w' := by
  cases h0 : (s.toList == [65, 83, 76])
  case true =>
    go_enter Tryd.func63, Tryd.ntmps63
    go_wp2_with fail
    go_ret
    refine ⟨?_, rfl⟩
    unfold chgS
    rw [h0]
    rfl
  case false =>
    cases h1 : (s.toList == [76, 83, 82])
    case true =>
      go_enter Tryd.func63, Tryd.ntmps63
      go_wp2_with fail
      go_ret
      refine ⟨?_, rfl⟩
      unfold chgS
      rw [h0, h1]
      rfl
    case false =>
      cases h2 : (s.toList == [82, 79, 76])
      case true =>
        go_enter Tryd.func63, Tryd.ntmps63
        go_wp2_with fail
        go_ret
        refine ⟨?_, rfl⟩
        unfold chgS
        rw [h0, h1, h2]
        rfl
      case false =>
        cases h3 : (s.toList == [82, 79, 82])
        case true =>
          go_enter Tryd.func63, Tryd.ntmps63
          go_wp2_with fail
          go_ret
          refine ⟨?_, rfl⟩
          unfold chgS
          rw [h0, h1, h2, h3]
          rfl
        case false =>
          cases h4 : (s.toList == [73, 78, 67])
          case true =>
            go_enter Tryd.func63, Tryd.ntmps63
            go_wp2_with fail
            go_ret
            refine ⟨?_, rfl⟩
            unfold chgS
            rw [h0, h1, h2, h3, h4]
            rfl
          case false =>
            cases h5 : (s.toList == [68, 69, 67])
            case true =>
              go_enter Tryd.func63, Tryd.ntmps63
              go_wp2_with fail
              go_ret
              refine ⟨?_, rfl⟩
              unfold chgS
              rw [h0, h1, h2, h3, h4, h5]
              rfl
            case false =>
              cases h6 : (s.toList == [84, 83, 66])
              case true =>
                go_enter Tryd.func63, Tryd.ntmps63
                go_wp2_with fail
                go_ret
                refine ⟨?_, rfl⟩
                unfold chgS
                rw [h0, h1, h2, h3, h4, h5, h6]
                rfl
              case false =>
                cases h7 : (s.toList == [84, 82, 66])
                case true =>
                  go_enter Tryd.func63, Tryd.ntmps63
                  go_wp2_with fail
                  go_ret
                  refine ⟨?_, rfl⟩
                  unfold chgS
                  rw [h0, h1, h2, h3, h4, h5, h6, h7]
                  rfl
                case false =>
                  go_enter Tryd.func63, Tryd.ntmps63
                  go_wp2_with fail
                  go_ret
                  refine ⟨?_, rfl⟩
                  unfold chgS
                  rw [h0, h1, h2, h3, h4, h5, h6, h7]
                  rfl
def impS (s : ByteArray) : Int := if ((s.toList == [80, 72, 65]) || (s.toList == [80, 72, 80]) || (s.toList == [80, 72, 88]) || (s.toList == [80, 72, 89]) || (s.toList == [83, 65, 88]) || (s.toList == [83, 65, 89]) || (s.toList == [83, 88, 89]) || (s.toList == [67, 83, 76]) || (s.toList == [67, 83, 72])) = true then 3 else if ((s.toList == [80, 76, 65]) || (s.toList == [80, 76, 80]) || (s.toList == [80, 76, 88]) || (s.toList == [80, 76, 89])) = true then 4 else if ((s.toList == [82, 84, 83]) || (s.toList == [82, 84, 73])) = true then 7 else 2
theorem impS_calls (s : ByteArray) (w : World) : Calls Tryd.prog 36 #[.string s] w fun e w' => e = .returned (.int .i64 (impS s)) ∧ w = w' := by
  cases h0 : (s.toList == [80, 72, 65])
  case true =>
    go_enter Tryd.func36, Tryd.ntmps36
    go_wp2_with fail
    go_ret
    refine ⟨?_, rfl⟩
    unfold impS
    rw [h0]
    rfl
  case false =>
    cases h1 : (s.toList == [80, 72, 80])
    case true =>
      go_enter Tryd.func36, Tryd.ntmps36
      go_wp2_with fail
      go_ret
      refine ⟨?_, rfl⟩
      unfold impS
      rw [h0, h1]
      rfl
    case false =>
      cases h2 : (s.toList == [80, 72, 88])
      case true =>
        go_enter Tryd.func36, Tryd.ntmps36
        go_wp2_with fail
        go_ret
        refine ⟨?_, rfl⟩
        unfold impS
        rw [h0, h1, h2]
        rfl
      case false =>
        cases h3 : (s.toList == [80, 72, 89])
        case true =>
          go_enter Tryd.func36, Tryd.ntmps36
          go_wp2_with fail
          go_ret
          refine ⟨?_, rfl⟩
          unfold impS
          rw [h0, h1, h2, h3]
          rfl
        case false =>
          cases h4 : (s.toList == [83, 65, 88])
          case true =>
            go_enter Tryd.func36, Tryd.ntmps36
            go_wp2_with fail
            go_ret
            refine ⟨?_, rfl⟩
            unfold impS
            rw [h0, h1, h2, h3, h4]
            rfl
          case false =>
            cases h5 : (s.toList == [83, 65, 89])
            case true =>
              go_enter Tryd.func36, Tryd.ntmps36
              go_wp2_with fail
              go_ret
              refine ⟨?_, rfl⟩
              unfold impS
              rw [h0, h1, h2, h3, h4, h5]
              rfl
            case false =>
              cases h6 : (s.toList == [83, 88, 89])
              case true =>
                go_enter Tryd.func36, Tryd.ntmps36
                go_wp2_with fail
                go_ret
                refine ⟨?_, rfl⟩
                unfold impS
                rw [h0, h1, h2, h3, h4, h5, h6]
                rfl
              case false =>
                cases h7 : (s.toList == [67, 83, 76])
                case true =>
                  go_enter Tryd.func36, Tryd.ntmps36
                  go_wp2_with fail
                  go_ret
                  refine ⟨?_, rfl⟩
                  unfold impS
                  rw [h0, h1, h2, h3, h4, h5, h6, h7]
                  rfl
                case false =>
                  cases h8 : (s.toList == [67, 83, 72])
                  case true =>
                    go_enter Tryd.func36, Tryd.ntmps36
                    go_wp2_with fail
                    go_ret
                    refine ⟨?_, rfl⟩
                    unfold impS
                    rw [h0, h1, h2, h3, h4, h5, h6, h7, h8]
                    rfl
                  case false =>
                    cases h9 : (s.toList == [80, 76, 65])
                    case true =>
                      go_enter Tryd.func36, Tryd.ntmps36
                      go_wp2_with fail
                      go_ret
                      refine ⟨?_, rfl⟩
                      unfold impS
                      rw [h0, h1, h2, h3, h4, h5, h6, h7, h8, h9]
                      rfl
                    case false =>
                      cases h10 : (s.toList == [80, 76, 80])
                      case true =>
                        go_enter Tryd.func36, Tryd.ntmps36
                        go_wp2_with fail
                        go_ret
                        refine ⟨?_, rfl⟩
                        unfold impS
                        rw [h0, h1, h2, h3, h4, h5, h6, h7, h8, h9, h10]
                        rfl
                      case false =>
                        cases h11 : (s.toList == [80, 76, 88])
                        case true =>
                          go_enter Tryd.func36, Tryd.ntmps36
                          go_wp2_with fail
                          go_ret
                          refine ⟨?_, rfl⟩
                          unfold impS
                          rw [h0, h1, h2, h3, h4, h5, h6, h7, h8, h9, h10, h11]
                          rfl
                        case false =>
                          cases h12 : (s.toList == [80, 76, 89])
                          case true =>
                            go_enter Tryd.func36, Tryd.ntmps36
                            go_wp2_with fail
                            go_ret
                            refine ⟨?_, rfl⟩
                            unfold impS
                            rw [h0, h1, h2, h3, h4, h5, h6, h7, h8, h9, h10, h11, h12]
                            rfl
                          case false =>
                            cases h13 : (s.toList == [82, 84, 83])
                            case true =>
                              go_enter Tryd.func36, Tryd.ntmps36
                              go_wp2_with fail
                              go_ret
                              refine ⟨?_, rfl⟩
                              unfold impS
                              rw [h0, h1, h2, h3, h4, h5, h6, h7, h8, h9, h10, h11, h12, h13]
                              rfl
                            case false =>
                              cases h14 : (s.toList == [82, 84, 73])
                              case true =>
                                go_enter Tryd.func36, Tryd.ntmps36
                                go_wp2_with fail
                                go_ret
                                refine ⟨?_, rfl⟩
                                unfold impS
                                rw [h0, h1, h2, h3, h4, h5, h6, h7, h8, h9, h10, h11, h12, h13, h14]
                                rfl
                              case false =>
                                go_enter Tryd.func36, Tryd.ntmps36
                                go_wp2_with fail
                                go_ret
                                refine ⟨?_, rfl⟩
                                unfold impS
                                rw [h0, h1, h2, h3, h4, h5, h6, h7, h8, h9, h10, h11, h12, h13, h14]
                                rfl
def bytS (s : ByteArray) : Int := if ((s.toList == [66, 82, 75])) = true then 8 else if ((s.toList == [84, 65, 77])) = true then 5 else if ((s.toList == [84, 77, 65]) || (s.toList == [83, 84, 48]) || (s.toList == [83, 84, 49]) || (s.toList == [83, 84, 50])) = true then 4 else 2
theorem bytS_calls (s : ByteArray) (w : World) : Calls Tryd.prog 37 #[.string s] w fun e w' => e = .returned (.int .i64 (bytS s)) ∧ w = w' := by
  cases h0 : (s.toList == [66, 82, 75])
  case true =>
    go_enter Tryd.func37, Tryd.ntmps37
    go_wp2_with fail
    go_ret
    refine ⟨?_, rfl⟩
    unfold bytS
    rw [h0]
    rfl
  case false =>
    cases h1 : (s.toList == [84, 65, 77])
    case true =>
      go_enter Tryd.func37, Tryd.ntmps37
      go_wp2_with fail
      go_ret
      refine ⟨?_, rfl⟩
      unfold bytS
      rw [h0, h1]
      rfl
    case false =>
      cases h2 : (s.toList == [84, 77, 65])
      case true =>
        go_enter Tryd.func37, Tryd.ntmps37
        go_wp2_with fail
        go_ret
        refine ⟨?_, rfl⟩
        unfold bytS
        rw [h0, h1, h2]
        rfl
      case false =>
        cases h3 : (s.toList == [83, 84, 48])
        case true =>
          go_enter Tryd.func37, Tryd.ntmps37
          go_wp2_with fail
          go_ret
          refine ⟨?_, rfl⟩
          unfold bytS
          rw [h0, h1, h2, h3]
          rfl
        case false =>
          cases h4 : (s.toList == [83, 84, 49])
          case true =>
            go_enter Tryd.func37, Tryd.ntmps37
            go_wp2_with fail
            go_ret
            refine ⟨?_, rfl⟩
            unfold bytS
            rw [h0, h1, h2, h3, h4]
            rfl
          case false =>
            cases h5 : (s.toList == [83, 84, 50])
            case true =>
              go_enter Tryd.func37, Tryd.ntmps37
              go_wp2_with fail
              go_ret
              refine ⟨?_, rfl⟩
              unfold bytS
              rw [h0, h1, h2, h3, h4, h5]
              rfl
            case false =>
              go_enter Tryd.func37, Tryd.ntmps37
              go_wp2_with fail
              go_ret
              refine ⟨?_, rfl⟩
              unfold bytS
              rw [h0, h1, h2, h3, h4, h5]
              rfl
def braS (s : ByteArray) : Int := if ((s.toList == [66, 82, 65])) = true then 4 else if ((s.toList == [66, 83, 82])) = true then 8 else 2
theorem braS_calls (s : ByteArray) (w : World) : Calls Tryd.prog 40 #[.string s] w fun e w' => e = .returned (.int .i64 (braS s)) ∧ w = w' := by
  cases h0 : (s.toList == [66, 82, 65])
  case true =>
    go_enter Tryd.func40, Tryd.ntmps40
    go_wp2_with fail
    go_ret
    refine ⟨?_, rfl⟩
    unfold braS
    rw [h0]
    rfl
  case false =>
    cases h1 : (s.toList == [66, 83, 82])
    case true =>
      go_enter Tryd.func40, Tryd.ntmps40
      go_wp2_with fail
      go_ret
      refine ⟨?_, rfl⟩
      unfold braS
      rw [h0, h1]
      rfl
    case false =>
      go_enter Tryd.func40, Tryd.ntmps40
      go_wp2_with fail
      go_ret
      refine ⟨?_, rfl⟩
      unfold braS
      rw [h0, h1]
      rfl
end Go.Proofs.YtodimiffmmkndaaDoor
