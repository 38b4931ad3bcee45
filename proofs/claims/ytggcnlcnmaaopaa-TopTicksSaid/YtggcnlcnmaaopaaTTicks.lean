/-
  gannettop: TopTicks.
-/
import Derived.Test.YtggcnlcnmaaopaaTick3
import Derived.Test.YtggcnlcnmaaopaaObit
namespace Go.Proofs.Ytggcnlcnmaaopaa
set_option linter.unusedSimpArgs false
set_option linter.unusedVariables false
set_option maxRecDepth 10000
open Go.RowKit Pl

theorem and4_all : ∀ b : Nat, b < 256 → bits .and .u8 (b : Int) 4 = ((b / 4 % 2 * 4 : Nat) : Int) := by decide +kernel
/-- What is wanted of the controller. -/
theorem chT_want (b : Nat) (k : Bool) : chT true k (b % 8) = if (k || ((b / 4 % 2 * 4 : Nat) : Int) != 0) = true then 0 else 3 := by
  unfold chT
  have h4 : b % 8 / 4 % 2 = b / 4 % 2 := by omega
  rw [h4]
  rcases (show b / 4 % 2 = 0 ∨ b / 4 % 2 = 1 by omega) with h | h <;> rw [h] <;> cases k <;> rfl
theorem run_due (a b c d L : Int) (on u : Bool) (w : World) : (Instr.field 41 (.agg #[.int .u8 a, .int .u8 b, .int .u8 c, .int .u8 d, .int .u8 0, .int .i64 L, .bool on, .bool u, .bool false, .int .i64 0, .int .i64 0, .int .i64 0]) 7).run Try.prog w = .ok (.bool u) w := by kernel_rfl
theorem hdWriteTimer0 (D : DevA) (b : Nat) (d h : Nat) (u : Bool) (now : Int) (w : World) (hb : b < 256) (hD : Dev w D 0 0 false 3072 d u now h) :
    Calls Try.prog 6 #[.pointer (some ⟨D.p, 0, none⟩), .int .u16 3072, .int .u8 (b : Int)] w fun e w' => e = .returned (.tuple #[]) ∧ Dev w' D (b % 128) 0 false 3072 d u now b ∧ Below D.l w w' :=
  hdWriteT D 0 0 d h 3072 b (b % 128) 0 false u false 3072 3072 now w (by decide) (by decide) hD (fun W hT => tmWrite0_calls D.t 0 0 b false W hb hT)
theorem hdWriteTimer1 (D : DevA) (R : Nat) (d h : Nat) (u : Bool) (now : Int) (w : World) (hD : Dev w D R 0 false 3072 d u now h) :
    Calls Try.prog 6 #[.pointer (some ⟨D.p, 0, none⟩), .int .u16 3073, .int .u8 1] w fun e w' => e = .returned (.tuple #[]) ∧ Dev w' D R R true 3072 d u now 1 ∧ Below D.l w w' :=
  hdWriteT D R 0 d h 3073 1 R R false u true 3072 3072 now w (by decide) (by decide) hD (fun W hT => tmWrite1_calls D.t R 0 W hT)
theorem hdWriteDis (D : DevA) (b R C d h : Nat) (on u : Bool) (L now : Int) (w : World) (hb : b < 256) (hD : Dev w D R C on L d u now h) :
    Calls Try.prog 6 #[.pointer (some ⟨D.p, 0, none⟩), .int .u16 5122, .int .u8 (b : Int)] w fun e w' => e = .returned (.tuple #[]) ∧ Dev w' D R C on L (b % 8) u now b ∧ Below D.l w w' :=
  hdWriteI D R C d h 5122 b on u L now w (by decide) hb (by decide) hD
theorem hdWriteAck (D : DevA) (R C d h : Nat) (on u : Bool) (L now : Int) (w : World) (hD : Dev w D R C on L d u now h) :
    Calls Try.prog 6 #[.pointer (some ⟨D.p, 0, none⟩), .int .u16 5123, .int .u8 0] w fun e w' => e = .returned (.tuple #[]) ∧ Dev w' D R C on L d false now 0 ∧ Below D.l w w' :=
  hdWriteI D R C d h 5123 0 on u L now w (by decide) (by decide) (by decide) hD
set_option maxRecDepth 100000 in
set_option maxHeartbeats 16000000 in
theorem topTicks_calls (r b : Nat) (k : Bool) (w : World) (hr : r < 256) (hb : b < 256) :
    Calls Try.prog 3 #[.int .u8 (r : Int), .int .u8 (b : Int), .bool k] w fun e w' => e = .returned (.bool true) ∧ Below w.heap.size w w' := by
  have htb : tb 1 0 = true := by decide
  have hbit := fun W => octBit_calls 1 0 W (by omega)
  rw [htb] at hbit
  clear htb
  have hnew := devNew_calls w
  go_enter Try.func3, Try.ntmps3
  go_wp2_with fail
  refine Cl.p (hbit _) ?_
  clear hbit
  go_wp2_with fail
  refine hnew.mono ?_
  clear hnew
  rintro e w1 ⟨D, rfl, hD1, hl0, hb1⟩
  have hz : Blk (w1.alloc (.cells #[.int .i64 0, .int .i64 0] 26)) w1.heap.size 26 #[.int .i64 0, .int .i64 0] := Blk.new _ _ _
  have f0 : (w1.alloc (.cells #[.int .i64 0, .int .i64 0] 26)).cell? ⟨w1.heap.size, 0, none⟩ = some (.int .i64 0) := hz.cell 0
  have hba : Below w1.heap.size w1 (w1.alloc (.cells #[.int .i64 0, .int .i64 0] 26)) := Bl.alloc (Below.refl _ _) _
  have hD2 := hD1.low hba
  have hb2 := hb1.trans (hba.mono hb1.size)
  clear hD1 hb1 hba
  go_wp2_with (refine wpList_store_row rfl 26 _ _ rfl w1.heap.size (fltA (0, 0)) rfl rfl 26 _ hz (by kernel_rfl) rfl (by kernel_rfl) ?_; rw [show fltA (0, 0) = #[.int .i64 0, .int .i64 0] from rfl, setRow_same hz])
  generalize w1.alloc (.cells #[.int .i64 0, .int .i64 0] 26) = w2 at *
  clear f0 hz
  refine (hdWriteDis D b 0 0 0 0 false false 3072 0 w2 hb hD2).mono ?_
  rintro e w3 ⟨rfl, hD3, hc⟩
  have hb3 := hb2.trans (hc.mono hl0)
  clear hD2 hb2 hc
  go_wp2_with fail
  refine (hdWriteTimer0 D r (b % 8) b false 0 w3 hr hD3).mono ?_
  rintro e w4 ⟨rfl, hD4, hc⟩
  have hb4 := hb3.trans (hc.mono hl0)
  clear hD3 hb3 hc
  go_wp2_with fail
  refine (hdWriteTimer1 D (r % 128) (b % 8) r false 0 w4 hD4).mono ?_
  rintro e w5 ⟨rfl, hD5, hc⟩
  have hb5 := hb4.trans (hc.mono hl0)
  clear hD4 hb4 hc
  go_wp2_with fail
  refine (tmNew_calls w5).mono ?_
  rintro e w6 ⟨t, rfl, hT6, hgt, hc⟩
  have hpt : D.p < t := Nat.lt_of_lt_of_le hD5.H.lt hgt
  have hD6 := hD5.low hc
  have hb6 := hb5.trans (hc.mono hb5.size)
  have hwt : w.heap.size ≤ t := Nat.le_trans hb5.size hgt
  clear hD5 hb5 hc hgt
  go_wp2_with fail
  refine (tmWrite0_calls t 0 0 r false w6 hr hT6).mono ?_
  rintro e w7 ⟨⟨v, rfl⟩, hT7, hc⟩
  have hD7 := hD6.only hc (fun k e => Or.inr (by have e : k = t := e; omega))
  have hb7 := hb6.trans (hc.below hb6.size (fun k e => by have e : k = t := e; omega))
  clear hD6 hb6 hc hT6
  go_wp2_with fail
  refine (tmWrite1_calls t (r % 128) 0 w7 hT7).mono ?_
  rintro e w8 ⟨⟨v2, rfl⟩, hT8, hc⟩
  have hD8 := hD7.only hc (fun k e => Or.inr (by have e : k = t := e; omega))
  have hb8 := hb7.trans (hc.below hb7.size (fun k e => by have e : k = t := e; omega))
  clear hD7 hb7 hc hT7
  go_wp2_with fail
  refine (tmUntil_calls t (r % 128) (r % 128) w8 (by omega) hT8).mono ?_
  rintro e w9 ⟨rfl, q, rfl⟩
  have hD9 : Dev (w8.drewN q) D (r % 128) (r % 128) true 3072 (b % 8) false 0 1 := ⟨hD8.H, hD8.T, hD8.Li, hD8.A, hD8.I, hD8.P, hD8.F, hD8.G, hD8.V, hD8.ap⟩
  have hb9 : Below w.heap.size w (w8.drewN q) := hb8.trans ⟨rfl, rfl, rfl, Nat.le_refl _, fun _ _ => rfl⟩
  generalize w8.drewN q = w9 at *
  clear hD8 hb8 hT8 hpt hwt
  obtain ⟨N, hN⟩ : ∃ x, 3072 * (r % 128 + 1) = x := ⟨_, rfl⟩
  have n1 : 3072 ≤ N := by omega
  have n2 : N ≤ 393216 := by omega
  have hNm : ((((r : Int) % 128 + 1) * 3072)) = (N : Int) := by omega
  have hNn := hide hN
  have hNh := hide hNm
  rw [hN]
  clear hN hNm
  go_wp2_with fail
  refine (hdToA D (r % 128) (r % 128) (b % 8) 1 (r % 128) 0 true false true 3072 1 0 ((N : Int) - 1) ((N : Int) - 1) w9 (by omega) (by omega) (by omega) (by omega) hD9 (fun W hT => tmGoA D.t (r % 128) ((N : Int) - 1) W (by omega) (by have := hNn.out; omega) hT)).mono ?_
  rintro e w10 ⟨rfl, hD10, hc⟩
  have hb10 := hb9.trans (hc.mono hl0)
  clear hD9 hb9 hc
  go_wp2_with fail
  refine (hdStatus D (r % 128) 0 (b % 8) 1 true false 1 ((N : Int) - 1) w10 hD10).mono ?_
  rintro e w11 ⟨rfl, hc⟩
  have hD11 := hD10.low hc
  have hb11 := hb10.trans (hc.mono hb10.size)
  clear hD10 hb10 hc
  unfold stC
  have hfd := run_due
  go_wp2_with fail
  refine (hdToB D (r % 128) 0 (b % 8) 1 (r % 128) (r % 128) true false true 1 3072 ((N : Int) - 1) (N : Int) 1 w11 (by omega) (by omega) (by omega) (by omega) hD11 (fun W hT => tmGoB D.t (r % 128) W (by omega) hT)).mono ?_
  rintro e w12 ⟨rfl, hD12, hc⟩
  have hb12 := hb11.trans (hc.mono hl0)
  clear hD11 hb11 hc
  have ha4 := and4_all b hb
  have hwant := chT_want b k
  have hch := fun W (h : Dev W D (r % 128) (r % 128) true 3072 (b % 8) true N 1) => dvChoose D (r % 128) (r % 128) (b % 8) 1 true true k 3072 N W (by omega) h
  rw [hwant] at hch
  clear hwant
  have hch2 := fun W (h : Dev W D (r % 128) (r % 128) true 3072 (b % 8) false N 0) => dvChoose D (r % 128) (r % 128) (b % 8) 0 true false false 3072 N W (by omega) h
  rw [show chT false false (b % 8) = 0 from rfl] at hch2
  replace hch2 : ∀ W : World, Dev W D (r % 128) (r % 128) true 3072 (b % 8) false N 0 → Calls Try.prog 12 #[.pointer (some ⟨D.p, 0, none⟩), .bool false] W fun e w' => e = .returned (.int .u8 0) ∧ Below W.heap.size W w' := hch2
  have hst2 : ∀ W : World, Dev W D (r % 128) (r % 128) true 3072 (b % 8) false N 0 → Calls Try.prog 11 #[.pointer (some ⟨D.p, 0, none⟩)] W fun e w' => e = .returned (.agg #[.int .u8 0, .int .u8 ((r % 128 : Nat) : Int), .int .u8 ((r % 128 : Nat) : Int), .int .u8 ((b % 8 : Nat) : Int), .int .u8 0, .int .i64 3072, .bool true, .bool false, .bool false, .int .i64 0, .int .i64 0, .int .i64 0]) ∧ Below W.heap.size W w' := fun W h => hdStatus D (r % 128) (r % 128) (b % 8) 0 true false 3072 N W h
  rcases (show b / 4 % 2 = 0 ∨ b / 4 % 2 = 1 by omega) with h | h <;> rw [h] at ha4 hch <;> clear h <;> cases k
  · have ha4 : bits .and .u8 (b : Int) 4 = 0 := ha4
    replace hch : ∀ W : World, Dev W D (r % 128) (r % 128) true 3072 (b % 8) true N 1 → Calls Try.prog 12 #[.pointer (some ⟨D.p, 0, none⟩), .bool false] W fun e w' => e = .returned (.int .u8 3) ∧ Below W.heap.size W w' := hch
    go_wp2_with fail
    refine (hch w12 hD12).mono ?_
    rintro e w13 ⟨rfl, hc⟩
    have hD13 := hD12.low hc
    have hb13 := hb12.trans (hc.mono hb12.size)
    clear hD12 hb12 hc hch ha4
    go_wp2_with fail
    refine (hdWriteAck D (r % 128) (r % 128) (b % 8) 1 true true 3072 N w13 hD13).mono ?_
    rintro e w14 ⟨rfl, hD14, hc⟩
    have hb14 := hb13.trans (hc.mono hl0)
    have hNm := hNh.out
    clear hD13 hb13 hc
    go_wp2_with fail
    refine (hst2 _ hD14).mono ?_
    rintro e w15 ⟨rfl, hc⟩
    have hD15 := hD14.low hc
    have hb15 := hb14.trans (hc.mono hb14.size)
    clear hD14 hb14 hc
    go_wp2_with fail
    refine (hch2 _ hD15).mono ?_
    rintro e w16 ⟨rfl, hc⟩
    have hb16 := hb15.trans (hc.mono hb15.size)
    clear hD15 hb15 hc
    go_wp2_with fail
    go_ret
    exact ⟨rfl, hb16⟩
  · have ha4 : bits .and .u8 (b : Int) 4 = 0 := ha4
    replace hch : ∀ W : World, Dev W D (r % 128) (r % 128) true 3072 (b % 8) true N 1 → Calls Try.prog 12 #[.pointer (some ⟨D.p, 0, none⟩), .bool true] W fun e w' => e = .returned (.int .u8 0) ∧ Below W.heap.size W w' := hch
    go_wp2_with fail
    refine (hch w12 hD12).mono ?_
    rintro e w13 ⟨rfl, hc⟩
    have hD13 := hD12.low hc
    have hb13 := hb12.trans (hc.mono hb12.size)
    clear hD12 hb12 hc hch ha4
    go_wp2_with fail
    refine (hdWriteAck D (r % 128) (r % 128) (b % 8) 1 true true 3072 N w13 hD13).mono ?_
    rintro e w14 ⟨rfl, hD14, hc⟩
    have hb14 := hb13.trans (hc.mono hl0)
    have hNm := hNh.out
    clear hD13 hb13 hc
    go_wp2_with fail
    refine (hst2 _ hD14).mono ?_
    rintro e w15 ⟨rfl, hc⟩
    have hD15 := hD14.low hc
    have hb15 := hb14.trans (hc.mono hb14.size)
    clear hD14 hb14 hc
    go_wp2_with fail
    refine (hch2 _ hD15).mono ?_
    rintro e w16 ⟨rfl, hc⟩
    have hb16 := hb15.trans (hc.mono hb15.size)
    clear hD15 hb15 hc
    go_wp2_with fail
    go_ret
    exact ⟨rfl, hb16⟩
  · have ha4 : bits .and .u8 (b : Int) 4 = 4 := ha4
    replace hch : ∀ W : World, Dev W D (r % 128) (r % 128) true 3072 (b % 8) true N 1 → Calls Try.prog 12 #[.pointer (some ⟨D.p, 0, none⟩), .bool false] W fun e w' => e = .returned (.int .u8 0) ∧ Below W.heap.size W w' := hch
    go_wp2_with fail
    refine (hch w12 hD12).mono ?_
    rintro e w13 ⟨rfl, hc⟩
    have hD13 := hD12.low hc
    have hb13 := hb12.trans (hc.mono hb12.size)
    clear hD12 hb12 hc hch ha4
    go_wp2_with fail
    refine (hdWriteAck D (r % 128) (r % 128) (b % 8) 1 true true 3072 N w13 hD13).mono ?_
    rintro e w14 ⟨rfl, hD14, hc⟩
    have hb14 := hb13.trans (hc.mono hl0)
    have hNm := hNh.out
    clear hD13 hb13 hc
    go_wp2_with fail
    refine (hst2 _ hD14).mono ?_
    rintro e w15 ⟨rfl, hc⟩
    have hD15 := hD14.low hc
    have hb15 := hb14.trans (hc.mono hb14.size)
    clear hD14 hb14 hc
    go_wp2_with fail
    refine (hch2 _ hD15).mono ?_
    rintro e w16 ⟨rfl, hc⟩
    have hb16 := hb15.trans (hc.mono hb15.size)
    clear hD15 hb15 hc
    go_wp2_with fail
    go_ret
    exact ⟨rfl, hb16⟩
  · have ha4 : bits .and .u8 (b : Int) 4 = 4 := ha4
    replace hch : ∀ W : World, Dev W D (r % 128) (r % 128) true 3072 (b % 8) true N 1 → Calls Try.prog 12 #[.pointer (some ⟨D.p, 0, none⟩), .bool true] W fun e w' => e = .returned (.int .u8 0) ∧ Below W.heap.size W w' := hch
    go_wp2_with fail
    refine (hch w12 hD12).mono ?_
    rintro e w13 ⟨rfl, hc⟩
    have hD13 := hD12.low hc
    have hb13 := hb12.trans (hc.mono hb12.size)
    clear hD12 hb12 hc hch ha4
    go_wp2_with fail
    refine (hdWriteAck D (r % 128) (r % 128) (b % 8) 1 true true 3072 N w13 hD13).mono ?_
    rintro e w14 ⟨rfl, hD14, hc⟩
    have hb14 := hb13.trans (hc.mono hl0)
    have hNm := hNh.out
    clear hD13 hb13 hc
    go_wp2_with fail
    refine (hst2 _ hD14).mono ?_
    rintro e w15 ⟨rfl, hc⟩
    have hD15 := hD14.low hc
    have hb15 := hb14.trans (hc.mono hb14.size)
    clear hD14 hb14 hc
    go_wp2_with fail
    refine (hch2 _ hD15).mono ?_
    rintro e w16 ⟨rfl, hc⟩
    have hb16 := hb15.trans (hc.mono hb15.size)
    clear hD15 hb15 hc
    go_wp2_with fail
    go_ret
    exact ⟨rfl, hb16⟩
section
open Go.ChangeShapes Go.WideShapes Go.ChangeAt
variable {H : Type} {enc : TypeId × Value → H} {W : World} {base : Nat}
theorem walk_TopTicks {v0 v1 v2 : Value} {d0 d1 d2 : DataW H} {p0 p1 p2 : List MemPlace}
    (_hsh : W.ShapedOpen Try.prog) (_hsz : (DataW.weightsEach Try.prog [5, 5, 4] [d0, d1, d2]).all (· ≤ reachBytes) = true)
    (hv0 : Value.okWide Try.prog W .any base 5 v0) (hd0 : DataW.Trod enc Try.prog W 0 (fun _ => true) true 5 v0 d0 p0) (hv1 : Value.okWide Try.prog W .any base 5 v1) (hd1 : DataW.Trod enc Try.prog W 0 (fun _ => true) true 5 v1 d1 p1) (hv2 : Value.okWide Try.prog W .any base 4 v2) (hd2 : DataW.Trod enc Try.prog W 0 (fun _ => true) true 4 v2 d2 p2) :
    Calls Try.prog 3 #[v0, v1, v2] W fun e W' => e = .returned (.bool true) ∧ Below W.heap.size W W' := by
  obtain ⟨x0, rfl, h0⟩ := open_u8 Try.underlying5 hv0 hd0
  obtain ⟨x1, rfl, h1⟩ := open_u8 Try.underlying5 hv1 hd1
  obtain ⟨x2, rfl⟩ := open_yes Try.underlying4 hv2 hd2
  exact topTicks_calls x0 x1 x2 W h0 h1
end
end Go.Proofs.Ytggcnlcnmaaopaa
