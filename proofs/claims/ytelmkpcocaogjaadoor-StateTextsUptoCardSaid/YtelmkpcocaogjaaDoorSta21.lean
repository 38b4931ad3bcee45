/-
  gannetlaw25: live.
-/
import Derived.Test.YtelmkpcocaogjaaDoorSta20
import Derived.Test.YtelmkpcocaogjaaDoorSta18
import Derived.Test.YtelmkpcocaogjaaDoorSta5
import Derived.Test.YtelmkpcocaogjaaDoorSta6
namespace Go.Proofs.YtelmkpcocaogjaaDoor
set_option linter.unusedSimpArgs false
set_option linter.unusedVariables false
open Go.RowKit Pl

/-- A state is itself. -/
theorem run_eql_state (R : Nat → Nat) (w : World) : (binOp .eql 25 (.agg (stA R)) (.agg (stA R))).run Tryd.prog w = .ok (.bool true) w := by
  have hu : Tryd.prog.underlying 25 = some (.struct (Tryd.prog.fieldsOf 25)) := by kernel_rfl
  have hp : Tryd.prog.stoodInHeld 25 = false := by kernel_rfl
  have h8 : ∀ w, (isAgg 5).run Tryd.prog w = .ok false w := fun w => by simp [isAgg, run_underlying Tryd.underlying5]
  have h16 : ∀ w, (isAgg 22).run Tryd.prog w = .ok false w := fun w => by simp [isAgg, run_underlying Tryd.underlying22]
  have hb : ∀ w, (isAgg 4).run Tryd.prog w = .ok false w := fun w => by simp [isAgg, run_underlying Tryd.underlying4]
  have ha : ∀ w, (isAgg 23).run Tryd.prog w = .ok true w := fun w => by simp [isAgg, run_underlying Tryd.underlying23]
  have hs : ∀ w, (sizeOf 23).run Tryd.prog w = .ok 8 w := fun _ => by kernel_rfl
  have hs1 : ∀ w, (sizeOf 5).run Tryd.prog w = .ok 1 w := fun _ => by kernel_rfl
  have e8 : #[.int .u8 (R 6 : Int), .int .u8 (R 7 : Int), .int .u8 (R 8 : Int), .int .u8 (R 9 : Int), .int .u8 (R 10 : Int), .int .u8 (R 11 : Int), .int .u8 (R 12 : Int), .int .u8 (R 13 : Int)] = arr 8 (fun j => .int .u8 (R (6 + j) : Int)) := rfl
  have hm : ∀ d w, (Op.equalIn (d + 2) 23 (.agg #[.int .u8 (R 6 : Int), .int .u8 (R 7 : Int), .int .u8 (R 8 : Int), .int .u8 (R 9 : Int), .int .u8 (R 10 : Int), .int .u8 (R 11 : Int), .int .u8 (R 12 : Int), .int .u8 (R 13 : Int)]) (.agg #[.int .u8 (R 6 : Int), .int .u8 (R 7 : Int), .int .u8 (R 8 : Int), .int .u8 (R 9 : Int), .int .u8 (R 10 : Int), .int .u8 (R 11 : Int), .int .u8 (R 12 : Int), .int .u8 (R 13 : Int)])).run Tryd.prog w = .ok true w := fun d w => by
    have := run_equalIn_arr (P := Tryd.prog) (d + 1) 23 5 8 Tryd.underlying23 hs1 h8 (fun j => .int .u8 (R (6 + j) : Int)) (fun j => .int .u8 (R (6 + j) : Int)) (fun _ => true) (fun i _ w => (run_equalIn_int w d 5 .u8 .u8 _ _ Tryd.underlying5).trans (by rw [beq_self_eq_true])) w
    rw [show (List.range 8).all (fun _ => true) = true from by decide] at this
    rw [e8]
    exact this
  rw [run_eql_struct, run_equalIn_agg w 9999 25 _ _ hu hp]
  simp only [Program.fieldsOf, Tryd.underlying25, stA]
  simp [Op.eqFields, part, h8, h16, hb, ha, hs, hm, run_equalIn_bool' _ _ _ _ _ Tryd.underlying4, run_equalIn_int _ _ 5 _ _ _ _ Tryd.underlying5, run_equalIn_int _ _ 22 _ _ _ _ Tryd.underlying22]

def lvR : Nat → Nat := updN (fun _ => 0) 5 57344
def xst : Array Value := #[.int .u8 0, .int .u8 0, .int .u8 0, .int .u8 0, .int .u8 0, .int .u16 57344, .int .u8 0, .int .u8 0, .int .u8 0, .int .u8 0, .int .u8 0, .int .u8 0, .int .u8 0, .int .u8 0, .int .u8 0, .bool false]
theorem xst_eq : xst = stA lvR := by kernel_rfl
theorem zok : ROk fun _ => 0 := ⟨fun _ _ _ _ => Nat.zero_lt_succ _, Nat.zero_lt_succ _, Nat.zero_lt_succ _⟩
theorem xok : ROk lvR := updN_ok zok (by decide)
def lvS : List UInt8 := tS fun _ => 0
theorem lvS_eq : str lvS = ⟨#[65, 61, 48, 48, 32, 88, 61, 48, 48, 32, 89, 61, 48, 48, 32, 83, 61, 48, 48, 32, 80, 61, 46, 46, 46, 46, 46, 46, 46, 46, 32, 80, 67, 61, 48, 48, 48, 48, 32, 77, 61, 48, 48, 46, 48, 48, 46, 48, 48, 46, 48, 48, 46, 48, 48, 46, 48, 48, 46, 48, 48, 46, 48, 48, 32, 76, 61, 48, 48, 32, 115, 108, 111, 119]⟩ := by kernel_rfl
theorem lvT (w : World) : Calls Tryd.prog 8 #[.agg zst] w fun e w' => e = .returned (.string (str lvS)) ∧ Below w.heap.size w w' := stText_calls (fun _ => 0) w zok
theorem lvRd (M : Int) (w : World) (hM : w.cell? ⟨0, 0, none⟩ = some (.int .i64 M)) : Calls Tryd.prog 9 #[.string (str lvS)] w fun e w' => e = .returned (.tuple #[.agg zst, .int .i64 0]) ∧ Below w.heap.size w w' := by
  have h := stRead_calls lvS M w (by rw [lvS, tS_len]; decide) hM
  rw [lvS, rdV_tS _ zok] at h
  exact h
theorem lvSet (w : World) : Calls Tryd.prog 17 #[.agg zst, .string ⟨#[80, 67]⟩, .int .u16 57344] w fun e w' => e = .returned (.tuple #[.agg xst, .int .i64 0]) ∧ Below w.heap.size w w' := by
  rw [xst_eq]
  exact stSet_ok (fun _ => 0) 5 57344 w zok (by decide) (by decide)
theorem lvGet (w : World) : Calls Tryd.prog 16 #[.agg xst, .string ⟨#[80, 67]⟩] w fun e w' => e = .returned (.tuple #[.int .u16 57344, .bool true]) ∧ Below w.heap.size w w' := by
  rw [xst_eq]
  exact stGet_yes lvR 5 w xok (by decide)
theorem lvBytes (w : World) : Calls Tryd.prog 20 #[.agg xst] w fun e w' => ∃ g c, e = .returned (.slice (some ⟨g, 0, none⟩) 17 c) ∧ w'.cell? ⟨g, 6, none⟩ = some (.int .u8 224) ∧ Below w.heap.size w w' := by
  rw [xst_eq]
  refine (stBytes_calls lvR w xok).mono ?_
  rintro e w' ⟨v, rfl, hown, hb⟩
  obtain ⟨g, c, rfl, _, _, _, hc⟩ := own1_form hown (by decide)
  exact ⟨g, c, rfl, hc 6 _ (btL_get _ 17 6 (by decide)), hb⟩
theorem lvOther (w : World) : Calls Tryd.prog 15 #[.agg zst, .agg xst] w fun e w' => ∃ g c, e = .returned (.slice (some ⟨g, 0, none⟩) 1 c) ∧ w'.cell? ⟨g, 0, none⟩ = some (.string ⟨#[80, 67]⟩) ∧ Below w.heap.size w w' := by
  rw [xst_eq]
  refine (stOther_calls (fun _ => 0) lvR w zok xok).mono ?_
  rintro e w' ⟨v, rfl, hown, hb⟩
  have e1 : dfN (fun _ => 0) lvR 16 = 1 := by decide
  have e2 : dfL (fun _ => 0) lvR 16 = [.string ⟨#[80, 67]⟩] := by kernel_rfl
  rw [e1, e2] at hown
  obtain ⟨g, c, rfl, _, _, _, hc⟩ := own1_form hown (by decide)
  exact ⟨g, c, rfl, hc 0 _ rfl, hb⟩
set_option maxRecDepth 100000 in
set_option maxHeartbeats 4000000 in
theorem live25_calls (M : Int) (w : World) (hM : w.cell? ⟨0, 0, none⟩ = some (.int .i64 M)) :
    Calls Tryd.prog 7 #[] w fun e w' => e = .returned (.bool true) ∧ Below w.heap.size w w' := by
  have hS := lvS_eq
  have hself : ∀ W, (binOp .eql 25 (.agg zst) (.agg zst)).run Tryd.prog W = .ok (.bool true) W := fun W => run_eql_state (fun _ => 0) W
  have hself2 : ∀ W, (binOp .eql 25 (.agg #[.int .u8 0, .int .u8 0, .int .u8 0, .int .u8 0, .int .u8 0, .int .u16 0, .int .u8 0, .int .u8 0, .int .u8 0, .int .u8 0, .int .u8 0, .int .u8 0, .int .u8 0, .int .u8 0, .int .u8 0, .bool false]) (.agg #[.int .u8 0, .int .u8 0, .int .u8 0, .int .u8 0, .int .u8 0, .int .u16 0, .int .u8 0, .int .u8 0, .int .u8 0, .int .u8 0, .int .u8 0, .int .u8 0, .int .u8 0, .int .u8 0, .int .u8 0, .bool false])).run Tryd.prog W = .ok (.bool true) W := hself
  have hT := lvT
  have hR := lvRd M
  have hM0 : (⟨0, 0, none⟩ : Addr).block < w.heap.size := cell_lt hM
  generalize lvS = S at *
  have HS := hide hS
  clear hS
  go_enter Tryd.func7, Tryd.ntmps7
  go_wp2_with fail
  refine Cl.m (hT _) ?_
  intro w1 hb1
  have hM1 := (hb1.cell (p := ⟨0, 0, none⟩) hM0).trans hM
  go_wp2_with fail
  refine Cl.m (hR _ hM1) ?_
  intro w2 hb2
  have hb02 := hb1.trans (hb2.mono hb1.size)
  have hz : Blk (w2.alloc (.cells zst 25)) w2.heap.size 25 zst := Blk.new _ _ _
  have hb03 := Bl.alloc hb02 (.cells zst 25)
  clear hT hR hM hM0 hM1 hb1 hb2 hb02
  go_wp2_with (first
    | (refine wpList_store_row rfl 25 _ _ rfl w2.heap.size _ rfl rfl 25 _ hz (by kernel_rfl) rfl (by kernel_rfl) ?_; rw [setRow_new])
    | (refine wpList_load_row rfl 25 _ rfl w2.heap.size rfl _ zst (0, 0) _ hz Tryd.underlying25 rfl (by kernel_rfl) ?_))
  generalize w2.alloc (.cells zst 25) = w3 at *
  generalize w2.heap.size = g1 at *
  refine Cl.m (lvSet _) ?_
  intro w4 hb4
  have hz4 : Blk w4 g1 25 zst := hz.below hb4 hz.lt
  have hb04 := hb03.trans (hb4.mono hb03.size)
  have hx : Blk (w4.alloc (.cells xst 25)) w4.heap.size 25 xst := Blk.new _ _ _
  have hz0 : Blk (w4.alloc (.cells zst 25)) w4.heap.size 25 zst := Blk.new _ _ _
  have hz5 : Blk (w4.alloc (.cells xst 25)) g1 25 zst := hz4.alloc _
  have hb05 := Bl.alloc hb04 (.cells xst 25)
  clear hz hb03 hb4 hb04
  go_wp2_with (first
    | (refine wpList_store_row rfl 25 _ _ rfl w4.heap.size _ rfl rfl 25 _ hz0 (by kernel_rfl) rfl (by kernel_rfl) ?_; rw [setRow_new])
    | (refine wpList_load_row rfl 25 _ rfl w4.heap.size rfl _ xst (0, 0) _ hx Tryd.underlying25 rfl (by kernel_rfl) ?_))
  generalize w4.alloc (.cells xst 25) = w5 at *
  generalize w4.heap.size = g2 at *
  clear hz0 hz4
  refine Cl.m (lvGet _) ?_
  intro w6 hb6
  have hx6 : Blk w6 g2 25 xst := hx.below hb6 hx.lt
  have hz6 : Blk w6 g1 25 zst := hz5.below hb6 hz5.lt
  have hb06 := hb05.trans (hb6.mono hb05.size)
  clear hx hz5 hb05 hb6
  go_wp2_with (refine wpList_load_row rfl 25 _ rfl g2 rfl _ xst (0, 0) _ hx6 Tryd.underlying25 rfl (by kernel_rfl) ?_)
  refine (lvBytes _).mono ?_
  rintro e w7 ⟨gb, cb, rfl, q7, hb7⟩
  have hx7 : Blk w7 g2 25 xst := hx6.below hb7 hx6.lt
  have hz7 : Blk w7 g1 25 zst := hz6.below hb7 hz6.lt
  have hb07 := hb06.trans (hb7.mono hb06.size)
  clear hx6 hz6 hb06 hb7
  go_wp2_with (first
    | (refine wpList_load_row rfl 25 _ rfl g1 rfl _ zst (0, 0) _ hz7 Tryd.underlying25 rfl (by kernel_rfl) ?_)
    | (refine wpList_load_row rfl 25 _ rfl g2 rfl _ xst (0, 0) _ hx7 Tryd.underlying25 rfl (by kernel_rfl) ?_))
  refine (lvOther _).mono ?_
  rintro e w8 ⟨gl, cl, rfl, q8, hb8⟩
  have hx8 : Blk w8 g2 25 xst := hx7.below hb8 hx7.lt
  have hz8 : Blk w8 g1 25 zst := hz7.below hb8 hz7.lt
  have hb08 := hb07.trans (hb8.mono hb07.size)
  have p8 := (hb8.cell (p := ⟨gb, 6, none⟩) (cell_lt q7)).trans q7
  have x5 : w8.cell? ⟨g2, 5, none⟩ = some (.int .u16 57344) := hx8.cell 5
  clear hx7 hz7 hb07 hb8 q7
  have hS := HS.out
  have y0 : w8.cell? ⟨g1, 0, none⟩ = some (.int .u8 0) := hz8.cell 0
  have y1 : w8.cell? ⟨g1, 1, none⟩ = some (.int .u8 0) := hz8.cell 1
  have y2 : w8.cell? ⟨g1, 2, none⟩ = some (.int .u8 0) := hz8.cell 2
  have y3 : w8.cell? ⟨g1, 3, none⟩ = some (.int .u8 0) := hz8.cell 3
  have y4 : w8.cell? ⟨g1, 4, none⟩ = some (.int .u8 0) := hz8.cell 4
  have y5 : w8.cell? ⟨g1, 5, none⟩ = some (.int .u16 0) := hz8.cell 5
  have y6 : w8.cell? ⟨g1, 6, none⟩ = some (.int .u8 0) := hz8.cell 6
  have y7 : w8.cell? ⟨g1, 7, none⟩ = some (.int .u8 0) := hz8.cell 7
  have y8 : w8.cell? ⟨g1, 8, none⟩ = some (.int .u8 0) := hz8.cell 8
  have y9 : w8.cell? ⟨g1, 9, none⟩ = some (.int .u8 0) := hz8.cell 9
  have y10 : w8.cell? ⟨g1, 10, none⟩ = some (.int .u8 0) := hz8.cell 10
  have y11 : w8.cell? ⟨g1, 11, none⟩ = some (.int .u8 0) := hz8.cell 11
  have y12 : w8.cell? ⟨g1, 12, none⟩ = some (.int .u8 0) := hz8.cell 12
  have y13 : w8.cell? ⟨g1, 13, none⟩ = some (.int .u8 0) := hz8.cell 13
  have y14 : w8.cell? ⟨g1, 14, none⟩ = some (.int .u8 0) := hz8.cell 14
  have y15 : w8.cell? ⟨g1, 15, none⟩ = some (.bool false) := hz8.cell 15
  clear hz8
  go_wp2_with fail
  refine (stNamesL_calls _).mono ?_
  rintro e w9 ⟨gn, rfl, _, hb9⟩
  go_wp2_with fail
  go_ret
  exact ⟨rfl, hb08.trans (hb9.mono hb08.size)⟩
end Go.Proofs.YtelmkpcocaogjaaDoor
