/-
  The texts Opc1, Opc2 of the proof of TopSums, as one file (they are merged by a program).
-/
import Derived.Test.YtplobngbjpgcgaaGreatDoorA9
import Derived.Test.YtplobngbjpgcgaaGreatDoorA1
import Derived.Test.YtplobngbjpgcgaaGreatDoorA22
import Derived.Test.YtplobngbjpgcgaaGreatDoorA2
import Derived.Test.YtplobngbjpgcgaaGreatDoorA24
section
/-
  Package opcode: part, Known.
-/
namespace Go.Proofs.YtplobngbjpgcgaaGreatDoor
set_option linter.unusedSimpArgs false
set_option linter.unusedVariables false
set_option maxRecDepth 10000
open Go.RowKit Go.Shelf Pl
/-- The operations of a body's second region. -/
def ops2nd (f : Func) : Array Oper := match f.body with | some (.seq _ (.seq (.region _ ops _) _)) => ops | _ => #[]
/-- The text that a slice of a constant text cuts. -/
def cutOf (o : Option Oper) : ByteArray := match o with | some o => (match o.op with | .slice _ (.const (.string s)) _ _ _ => s | _ => .empty) | none => .empty
/-- The table of all bytes, as it stands in the program. -/
noncomputable def tab : ByteArray := cutOf (ops2nd Tryz.f45)[7]?
theorem tab_size : tab.size = 1536 := by decide +kernel
/-- A byte's cell, its name, its mode's letters. -/
noncomputable def cel (b : Nat) : ByteArray := tab.extract (6 * b) (6 * b + 6)
noncomputable def nmB (b : Nat) : ByteArray := ⟨(Lib.trimRightB (List.take 4 (cel b).data.toList) 32).toArray⟩
noncomputable def mdB (b : Nat) : ByteArray := (cel b).extract 4 6
theorem cel_size (b : Nat) (hb : b < 256) : (cel b).size = 6 := by
  unfold cel
  rw [ByteArray.size_extract, tab_size]
  omega
theorem part_calls (b : Nat) (w : World) (hb : b < 256) :
    Calls Tryz.prog 45 #[.int .u8 (b : Int)] w fun e w' => (e = .returned (.tuple #[.string (nmB b), .string (mdB b)])) ∧ Below w.heap.size w w' := by
  have hb0 : Below w.heap.size w w := Below.refl _ _
  go_enter Tryz.func45, Tryz.ntmps45
  go_wp2_with fail
  generalize hS : ByteArray.extract _ _ _ = S
  have key : ∃ T, T = tab ∧ T.extract (6 * b) (6 * b + 6) = S := by
    refine ⟨_, ?_, hS⟩
    kernel_rfl
  obtain ⟨T, rfl, hS2⟩ := key
  clear hS
  have hS6 : S.size = 6 := by rw [← hS2]; exact cel_size b hb
  have hS3 : cel b = S := hS2
  have HS := hide hS3
  clear hS2 hS3
  have htr := fun W => Tryz.strings_TrimRight_one (S.extract 0 4) 32 (by decide) W (by rw [ByteArray.size_extract]; omega)
  refine wp_region_held_drew (S := fun W => Below w.heap.size w W) (by kernel_rfl) (by first | exact hb0.drew | exact hb0 | exact Below.drew hb0) (fun hS0 => ?_)
  clear hb0
  change wpAnyH _ _ _ _ _ 7 #[false, false, false, false, false, false, false] _ _
  generalize w.drew = v0 at *
  refine wpAnyH_take (i := 0) (v := ?_) rfl (by kernel_rfl) (by kernel_rfl) (by kernel_rfl) (fun _ _ _ h => h) (Or.inl ⟨by rfl, ?_⟩) hS0 ?_
  rotate_left
  · (intro w hSw; (try dsimp only at hSw); go_simp; try with_reducible rfl)
  simp only [List.getElem_toArray, List.getElem_cons_zero, List.getElem_cons_succ, Act.put, List.setIfInBounds_toArray, List.set_cons_zero, List.set_cons_succ]
  refine wpAnyH_take (i := 1) (v := ?_) rfl (by kernel_rfl) (by kernel_rfl) (by kernel_rfl) (fun _ _ _ h => h) (Or.inl ⟨by rfl, ?_⟩) hS0 ?_
  rotate_left
  · (intro w hSw; (try dsimp only at hSw); go_simp; try with_reducible rfl)
  simp only [List.getElem_toArray, List.getElem_cons_zero, List.getElem_cons_succ, Act.put, List.setIfInBounds_toArray, List.set_cons_zero, List.set_cons_succ]
  refine wpAnyH_take (i := 3) (v := ?_) rfl (by kernel_rfl) (by kernel_rfl) (by kernel_rfl) (fun _ _ _ h => h) (Or.inl ⟨by rfl, ?_⟩) hS0 ?_
  rotate_left
  · (intro w hSw; (try dsimp only at hSw); go_simp; try with_reducible rfl)
  simp only [List.getElem_toArray, List.getElem_cons_zero, List.getElem_cons_succ, Act.put, List.setIfInBounds_toArray, List.set_cons_zero, List.set_cons_succ]
  refine wpAnyH_take (i := 4) (v := ?_) rfl (by kernel_rfl) (by kernel_rfl) (by kernel_rfl) (fun _ _ _ h => h) (Or.inl ⟨by rfl, ?_⟩) hS0 ?_
  rotate_left
  · (intro w hSw; (try dsimp only at hSw); go_simp; try with_reducible rfl)
  simp only [List.getElem_toArray, List.getElem_cons_zero, List.getElem_cons_succ, Act.put, List.setIfInBounds_toArray, List.set_cons_zero, List.set_cons_succ]
  refine wpAnyH_ready (rs := [2]) (by kernel_rfl) (by simp) ?_
  refine AllReadyH.cons rfl (fun K hK => ?_) AllReadyH.nil
  go_simp
  refine (htr _).mono ?_
  rintro e w' ⟨rfl, rfl⟩
  (try go_simp)
  refine hK.out _ _ hS0 (fun _ => ?_)
  clear hK K
  simp only [List.getElem_toArray, List.getElem_cons_zero, List.getElem_cons_succ, Act.put, List.setIfInBounds_toArray, List.set_cons_zero, List.set_cons_succ]
  refine wpAnyH_take (i := 5) (v := ?_) rfl (by kernel_rfl) (by kernel_rfl) (by kernel_rfl) (fun _ _ _ h => h) (Or.inl ⟨by rfl, ?_⟩) hS0 ?_
  rotate_left
  · (intro w hSw; (try dsimp only at hSw); go_simp; try with_reducible rfl)
  simp only [List.getElem_toArray, List.getElem_cons_zero, List.getElem_cons_succ, Act.put, List.setIfInBounds_toArray, List.set_cons_zero, List.set_cons_succ]
  refine wpAnyH_take (i := 6) (v := ?_) rfl (by kernel_rfl) (by kernel_rfl) (by kernel_rfl) (fun _ _ _ h => h) (Or.inl ⟨by rfl, ?_⟩) hS0 ?_
  rotate_left
  · (intro w hSw; (try dsimp only at hSw); go_simp; try with_reducible rfl)
  simp only [List.getElem_toArray, List.getElem_cons_zero, List.getElem_cons_succ, Act.put, List.setIfInBounds_toArray, List.set_cons_zero, List.set_cons_succ]
  refine wpAnyH_done (by kernel_rfl) ?_ _
  have hb0 := hS0
  clear hS0
  go_wp2_with fail
  go_ret2
  refine ⟨?_, hb0⟩
  unfold nmB mdB
  rw [HS.out]
  rfl
theorem nmB_size (b : Nat) (hb : b < 256) : (nmB b).size ≤ 4 := by
  show (Lib.trimRightB (List.take 4 (cel b).data.toList) 32).toArray.size ≤ 4
  rw [List.size_toArray]
  unfold Lib.trimRightB
  rw [List.length_reverse]
  refine Nat.le_trans (List.dropWhile_sublist _).length_le ?_
  rw [List.length_reverse, List.length_take]
  omega
end Go.Proofs.YtplobngbjpgcgaaGreatDoor
end
section
/-
  Package opcode: the switches on a name.
-/
namespace Go.Proofs.YtplobngbjpgcgaaGreatDoor
set_option linter.unusedSimpArgs false
set_option linter.unusedVariables false
set_option maxRecDepth 10000
open Go.RowKit Pl
def chgS (s : ByteArray) : Bool := if ((s.toList == [65, 83, 76]) || (s.toList == [76, 83, 82]) || (s.toList == [82, 79, 76]) || (s.toList == [82, 79, 82]) || (s.toList == [73, 78, 67]) || (s.toList == [68, 69, 67]) || (s.toList == [84, 83, 66]) || (s.toList == [84, 82, 66])) = true then true else false
theorem chgS_calls (s : ByteArray) (w : World) : Calls Tryz.prog 151 #[.string s] w fun e w' => e = .returned (.bool (chgS s)) ∧ w = w' := by
  cases h0 : (s.toList == [65, 83, 76])
  case true =>
    go_enter Tryz.func151, Tryz.ntmps151
    go_wp2_with fail
    go_ret
    refine ⟨?_, rfl⟩
    unfold chgS
    rw [h0]
    rfl
  case false =>
    cases h1 : (s.toList == [76, 83, 82])
    case true =>
      go_enter Tryz.func151, Tryz.ntmps151
      go_wp2_with fail
      go_ret
      refine ⟨?_, rfl⟩
      unfold chgS
      rw [h0, h1]
      rfl
    case false =>
      cases h2 : (s.toList == [82, 79, 76])
      case true =>
        go_enter Tryz.func151, Tryz.ntmps151
        go_wp2_with fail
        go_ret
        refine ⟨?_, rfl⟩
        unfold chgS
        rw [h0, h1, h2]
        rfl
      case false =>
        cases h3 : (s.toList == [82, 79, 82])
        case true =>
          go_enter Tryz.func151, Tryz.ntmps151
          go_wp2_with fail
          go_ret
          refine ⟨?_, rfl⟩
          unfold chgS
          rw [h0, h1, h2, h3]
          rfl
        case false =>
          cases h4 : (s.toList == [73, 78, 67])
          case true =>
            go_enter Tryz.func151, Tryz.ntmps151
            go_wp2_with fail
            go_ret
            refine ⟨?_, rfl⟩
            unfold chgS
            rw [h0, h1, h2, h3, h4]
            rfl
          case false =>
            cases h5 : (s.toList == [68, 69, 67])
            case true =>
              go_enter Tryz.func151, Tryz.ntmps151
              go_wp2_with fail
              go_ret
              refine ⟨?_, rfl⟩
              unfold chgS
              rw [h0, h1, h2, h3, h4, h5]
              rfl
            case false =>
              cases h6 : (s.toList == [84, 83, 66])
              case true =>
                go_enter Tryz.func151, Tryz.ntmps151
                go_wp2_with fail
                go_ret
                refine ⟨?_, rfl⟩
                unfold chgS
                rw [h0, h1, h2, h3, h4, h5, h6]
                rfl
              case false =>
                cases h7 : (s.toList == [84, 82, 66])
                case true =>
                  go_enter Tryz.func151, Tryz.ntmps151
                  go_wp2_with fail
                  go_ret
                  refine ⟨?_, rfl⟩
                  unfold chgS
                  rw [h0, h1, h2, h3, h4, h5, h6, h7]
                  rfl
                case false =>
                  go_enter Tryz.func151, Tryz.ntmps151
                  go_wp2_with fail
                  go_ret
                  refine ⟨?_, rfl⟩
                  unfold chgS
                  rw [h0, h1, h2, h3, h4, h5, h6, h7]
                  rfl
def impS (s : ByteArray) : Int := if ((s.toList == [80, 72, 65]) || (s.toList == [80, 72, 80]) || (s.toList == [80, 72, 88]) || (s.toList == [80, 72, 89]) || (s.toList == [83, 65, 88]) || (s.toList == [83, 65, 89]) || (s.toList == [83, 88, 89]) || (s.toList == [67, 83, 76]) || (s.toList == [67, 83, 72])) = true then 3 else if ((s.toList == [80, 76, 65]) || (s.toList == [80, 76, 80]) || (s.toList == [80, 76, 88]) || (s.toList == [80, 76, 89])) = true then 4 else if ((s.toList == [82, 84, 83]) || (s.toList == [82, 84, 73])) = true then 7 else 2
theorem impS_calls (s : ByteArray) (w : World) : Calls Tryz.prog 86 #[.string s] w fun e w' => e = .returned (.int .i64 (impS s)) ∧ w = w' := by
  cases h0 : (s.toList == [80, 72, 65])
  case true =>
    go_enter Tryz.func86, Tryz.ntmps86
    go_wp2_with fail
    go_ret
    refine ⟨?_, rfl⟩
    unfold impS
    rw [h0]
    rfl
  case false =>
    cases h1 : (s.toList == [80, 72, 80])
    case true =>
      go_enter Tryz.func86, Tryz.ntmps86
      go_wp2_with fail
      go_ret
      refine ⟨?_, rfl⟩
      unfold impS
      rw [h0, h1]
      rfl
    case false =>
      cases h2 : (s.toList == [80, 72, 88])
      case true =>
        go_enter Tryz.func86, Tryz.ntmps86
        go_wp2_with fail
        go_ret
        refine ⟨?_, rfl⟩
        unfold impS
        rw [h0, h1, h2]
        rfl
      case false =>
        cases h3 : (s.toList == [80, 72, 89])
        case true =>
          go_enter Tryz.func86, Tryz.ntmps86
          go_wp2_with fail
          go_ret
          refine ⟨?_, rfl⟩
          unfold impS
          rw [h0, h1, h2, h3]
          rfl
        case false =>
          cases h4 : (s.toList == [83, 65, 88])
          case true =>
            go_enter Tryz.func86, Tryz.ntmps86
            go_wp2_with fail
            go_ret
            refine ⟨?_, rfl⟩
            unfold impS
            rw [h0, h1, h2, h3, h4]
            rfl
          case false =>
            cases h5 : (s.toList == [83, 65, 89])
            case true =>
              go_enter Tryz.func86, Tryz.ntmps86
              go_wp2_with fail
              go_ret
              refine ⟨?_, rfl⟩
              unfold impS
              rw [h0, h1, h2, h3, h4, h5]
              rfl
            case false =>
              cases h6 : (s.toList == [83, 88, 89])
              case true =>
                go_enter Tryz.func86, Tryz.ntmps86
                go_wp2_with fail
                go_ret
                refine ⟨?_, rfl⟩
                unfold impS
                rw [h0, h1, h2, h3, h4, h5, h6]
                rfl
              case false =>
                cases h7 : (s.toList == [67, 83, 76])
                case true =>
                  go_enter Tryz.func86, Tryz.ntmps86
                  go_wp2_with fail
                  go_ret
                  refine ⟨?_, rfl⟩
                  unfold impS
                  rw [h0, h1, h2, h3, h4, h5, h6, h7]
                  rfl
                case false =>
                  cases h8 : (s.toList == [67, 83, 72])
                  case true =>
                    go_enter Tryz.func86, Tryz.ntmps86
                    go_wp2_with fail
                    go_ret
                    refine ⟨?_, rfl⟩
                    unfold impS
                    rw [h0, h1, h2, h3, h4, h5, h6, h7, h8]
                    rfl
                  case false =>
                    cases h9 : (s.toList == [80, 76, 65])
                    case true =>
                      go_enter Tryz.func86, Tryz.ntmps86
                      go_wp2_with fail
                      go_ret
                      refine ⟨?_, rfl⟩
                      unfold impS
                      rw [h0, h1, h2, h3, h4, h5, h6, h7, h8, h9]
                      rfl
                    case false =>
                      cases h10 : (s.toList == [80, 76, 80])
                      case true =>
                        go_enter Tryz.func86, Tryz.ntmps86
                        go_wp2_with fail
                        go_ret
                        refine ⟨?_, rfl⟩
                        unfold impS
                        rw [h0, h1, h2, h3, h4, h5, h6, h7, h8, h9, h10]
                        rfl
                      case false =>
                        cases h11 : (s.toList == [80, 76, 88])
                        case true =>
                          go_enter Tryz.func86, Tryz.ntmps86
                          go_wp2_with fail
                          go_ret
                          refine ⟨?_, rfl⟩
                          unfold impS
                          rw [h0, h1, h2, h3, h4, h5, h6, h7, h8, h9, h10, h11]
                          rfl
                        case false =>
                          cases h12 : (s.toList == [80, 76, 89])
                          case true =>
                            go_enter Tryz.func86, Tryz.ntmps86
                            go_wp2_with fail
                            go_ret
                            refine ⟨?_, rfl⟩
                            unfold impS
                            rw [h0, h1, h2, h3, h4, h5, h6, h7, h8, h9, h10, h11, h12]
                            rfl
                          case false =>
                            cases h13 : (s.toList == [82, 84, 83])
                            case true =>
                              go_enter Tryz.func86, Tryz.ntmps86
                              go_wp2_with fail
                              go_ret
                              refine ⟨?_, rfl⟩
                              unfold impS
                              rw [h0, h1, h2, h3, h4, h5, h6, h7, h8, h9, h10, h11, h12, h13]
                              rfl
                            case false =>
                              cases h14 : (s.toList == [82, 84, 73])
                              case true =>
                                go_enter Tryz.func86, Tryz.ntmps86
                                go_wp2_with fail
                                go_ret
                                refine ⟨?_, rfl⟩
                                unfold impS
                                rw [h0, h1, h2, h3, h4, h5, h6, h7, h8, h9, h10, h11, h12, h13, h14]
                                rfl
                              case false =>
                                go_enter Tryz.func86, Tryz.ntmps86
                                go_wp2_with fail
                                go_ret
                                refine ⟨?_, rfl⟩
                                unfold impS
                                rw [h0, h1, h2, h3, h4, h5, h6, h7, h8, h9, h10, h11, h12, h13, h14]
                                rfl
def bytS (s : ByteArray) : Int := if ((s.toList == [66, 82, 75])) = true then 8 else if ((s.toList == [84, 65, 77])) = true then 5 else if ((s.toList == [84, 77, 65]) || (s.toList == [83, 84, 48]) || (s.toList == [83, 84, 49]) || (s.toList == [83, 84, 50])) = true then 4 else 2
theorem bytS_calls (s : ByteArray) (w : World) : Calls Tryz.prog 87 #[.string s] w fun e w' => e = .returned (.int .i64 (bytS s)) ∧ w = w' := by
  cases h0 : (s.toList == [66, 82, 75])
  case true =>
    go_enter Tryz.func87, Tryz.ntmps87
    go_wp2_with fail
    go_ret
    refine ⟨?_, rfl⟩
    unfold bytS
    rw [h0]
    rfl
  case false =>
    cases h1 : (s.toList == [84, 65, 77])
    case true =>
      go_enter Tryz.func87, Tryz.ntmps87
      go_wp2_with fail
      go_ret
      refine ⟨?_, rfl⟩
      unfold bytS
      rw [h0, h1]
      rfl
    case false =>
      cases h2 : (s.toList == [84, 77, 65])
      case true =>
        go_enter Tryz.func87, Tryz.ntmps87
        go_wp2_with fail
        go_ret
        refine ⟨?_, rfl⟩
        unfold bytS
        rw [h0, h1, h2]
        rfl
      case false =>
        cases h3 : (s.toList == [83, 84, 48])
        case true =>
          go_enter Tryz.func87, Tryz.ntmps87
          go_wp2_with fail
          go_ret
          refine ⟨?_, rfl⟩
          unfold bytS
          rw [h0, h1, h2, h3]
          rfl
        case false =>
          cases h4 : (s.toList == [83, 84, 49])
          case true =>
            go_enter Tryz.func87, Tryz.ntmps87
            go_wp2_with fail
            go_ret
            refine ⟨?_, rfl⟩
            unfold bytS
            rw [h0, h1, h2, h3, h4]
            rfl
          case false =>
            cases h5 : (s.toList == [83, 84, 50])
            case true =>
              go_enter Tryz.func87, Tryz.ntmps87
              go_wp2_with fail
              go_ret
              refine ⟨?_, rfl⟩
              unfold bytS
              rw [h0, h1, h2, h3, h4, h5]
              rfl
            case false =>
              go_enter Tryz.func87, Tryz.ntmps87
              go_wp2_with fail
              go_ret
              refine ⟨?_, rfl⟩
              unfold bytS
              rw [h0, h1, h2, h3, h4, h5]
              rfl
def braS (s : ByteArray) : Int := if ((s.toList == [66, 82, 65])) = true then 4 else if ((s.toList == [66, 83, 82])) = true then 8 else 2
theorem braS_calls (s : ByteArray) (w : World) : Calls Tryz.prog 90 #[.string s] w fun e w' => e = .returned (.int .i64 (braS s)) ∧ w = w' := by
  cases h0 : (s.toList == [66, 82, 65])
  case true =>
    go_enter Tryz.func90, Tryz.ntmps90
    go_wp2_with fail
    go_ret
    refine ⟨?_, rfl⟩
    unfold braS
    rw [h0]
    rfl
  case false =>
    cases h1 : (s.toList == [66, 83, 82])
    case true =>
      go_enter Tryz.func90, Tryz.ntmps90
      go_wp2_with fail
      go_ret
      refine ⟨?_, rfl⟩
      unfold braS
      rw [h0, h1]
      rfl
    case false =>
      go_enter Tryz.func90, Tryz.ntmps90
      go_wp2_with fail
      go_ret
      refine ⟨?_, rfl⟩
      unfold braS
      rw [h0, h1]
      rfl
end Go.Proofs.YtplobngbjpgcgaaGreatDoor
end
