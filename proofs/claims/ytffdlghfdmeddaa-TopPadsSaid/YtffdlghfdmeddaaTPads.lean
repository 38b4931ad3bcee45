/-
  gannettop: TopPads.
-/
import Derived.Test.YtffdlghfdmeddaaTim
namespace Go.Proofs.Ytffdlghfdmeddaa
open Go.RowKit Pl

theorem nums_lit (w : World) (k : IntKind) (zs : List Int) (t : TypeId) (cs : Array Value) (hcs : cs = (zs.map (Value.int k)).toArray) : NumsAt (w.alloc (.cells cs t)) k (some ⟨w.heap.size, 0, none⟩) zs.length (fun i => zs.getD i 0) := by
  intro i hi
  refine ⟨w.heap.size, 0, rfl, by simp, ?_⟩
  rw [(Blk.new w t cs).cell, hcs]
  simp [hi]
theorem octLo_calls (x : Nat) (w : World) (hx : x < 65536) :
    Calls Try.prog 14 #[.int .u16 (x : Int)] w fun e w' => e = .returned (.int .u8 ((x % 256 : Nat) : Int)) ∧ w = w' := by
  go_enter Try.func14, Try.ntmps14
  go_wp2_with fail
  go_ret
  exact ⟨by go_num, rfl⟩
set_option maxRecDepth 100000 in
set_option maxHeartbeats 4000000 in
theorem topPads_calls (b : Nat) (w : World) (hb : b < 256) :
    Calls Try.prog 3 #[.int .u8 (b : Int)] w fun e w' => e = .returned (.bool true) ∧ Below w.heap.size w w' := by
  have htb : tb 1 0 = true := by decide
  have hbit := fun W => octBit_calls 1 0 W (by omega)
  rw [htb] at hbit
  have hn := nums_lit w .u8 [(b : Int), (b : Int)] 5 #[.int .u8 (b : Int), .int .u8 (b : Int)] rfl
  have hq0 : nxV (fun i => [(b : Int), (b : Int)].getD i 0) 2 0 = (b : Int) := rfl
  have hq1 : nxV (fun i => [(b : Int), (b : Int)].getD i 0) 2 1 = (b : Int) := rfl
  generalize (fun i => [(b : Int), (b : Int)].getD i 0) = L at *
  have hb01 : Below w.heap.size w (w.alloc (.cells #[.int .u8 (b : Int), .int .u8 (b : Int)] 5)) := (Below.refl _ _).alloc (Nat.le_refl _) _
  have hnw := ptNew_calls (some ⟨w.heap.size, 0, none⟩) 2 2 L (w.alloc (.cells #[.int .u8 (b : Int), .int .u8 (b : Int)] 5)) (by omega) hn
  obtain ⟨lo, hlo⟩ : ∃ lo, rdV 0 0 b = lo := ⟨_, rfl⟩
  obtain ⟨hi, hhi⟩ : ∃ hi, rdV 1 1 b = hi := ⟨_, rfl⟩
  have hlo' : 176 + b % 16 = lo := hlo
  have hhi' : 176 + b / 16 = hi := hhi
  go_enter Try.func3, Try.ntmps3
  go_wp2_with fail
  refine Cl.p (hbit _) ?_
  go_wp2_with fail
  refine hnw.mono ?_
  rintro e w1 ⟨g, gf, o', c', rfl, hP1, hF1, hN1, hgf, hgg, hb1⟩
  have hb01' := hb01.trans (hb1.mono hb01.size)
  clear hnw hn hbit
  go_wp2_with fail
  refine (tmNew_calls _).mono ?_
  rintro e w2 ⟨t, rfl, hT2, htt, hb2⟩
  have hP2 := Blk.below hP1 hb2 (Blk.lt hP1)
  have hF2 := Blk.below hF1 hb2 (Blk.lt hF1)
  have hgl := Blk.lt hP1
  have hN2 : NumsB w2 .u8 o' 2 L gf := hN1.only (S := fun j => w1.heap.size ≤ j) ⟨hb2.os, hb2.tape, hb2.output, hb2.size, fun j hj hs => hb2.block j (by omega)⟩ (fun j hj e => by omega)
  have hb02 := hb01'.trans (hb2.mono hb01'.size)
  have hsz := hb01'.size
  have hgw : w.heap.size ≤ gf := by simp at hgf; omega
  clear hP1 hF1 hN1 hb1 hb2 hb01 hb01'
  go_wp2_with fail
  refine (ptRead_calls g gf 0 0 o' 2 c' 0 b L _ (by omega) (by omega) hq0 hb (by omega) (by omega) hP2 hF2 hN2).mono ?_
  rintro e w3 ⟨rfl, hF3, hP3, ho3⟩
  have hF3 : FB w3 gf o' 2 c' 1 := hF3
  have hN3 := hN2.only ho3 (fun j hj e => by omega)
  have hT3 := Blk.only hT2 ho3 (by omega)
  have hb03 := hb02.trans (ho3.below hb02.size (fun j e => by omega))
  rw [hlo]
  clear hP2 hF2 hN2 hT2 ho3 hb02
  go_wp2_with fail
  refine (ptWrite_calls g gf 0 0 1 _ (by omega) (by omega) (by omega) hP3).mono ?_
  rintro e w4 ⟨⟨_, rfl⟩, hP4, ho4⟩
  have hP4 : PB w4 g gf 1 1 := hP4
  have hF4 := Blk.only hF3 ho4 (by omega)
  have hN4 := hN3.only ho4 (fun j hj e => by omega)
  have hT4 := Blk.only hT3 ho4 (by omega)
  have hb04 := hb03.trans (ho4.below hb03.size (fun j e => by omega))
  clear hP3 hF3 hN3 hT3 ho4 hb03
  go_wp2_with fail
  refine (ptRead_calls g gf 1 1 o' 2 c' 1 b L _ (by omega) (by omega) hq1 hb (by omega) (by omega) hP4 hF4 hN4).mono ?_
  rintro e w5 ⟨rfl, hF5, hP5, ho5⟩
  have hF5 : FB w5 gf o' 2 c' 2 := hF5
  have hT5 := Blk.only hT4 ho5 (by omega)
  have hb05 := hb04.trans (ho5.below hb04.size (fun j e => by omega))
  rw [hhi]
  clear hP4 hF4 hN4 hT4 ho5 hb04
  go_wp2_with fail
  refine (tmWrite0_calls t 0 0 b false _ hb hT5).mono ?_
  rintro e w6 ⟨⟨_, rfl⟩, hT6, ho6⟩
  have hP6 := Blk.only hP5 ho6 (by omega)
  have hF6 := Blk.only hF5 ho6 (by omega)
  have hb06 := hb05.trans (ho6.below hb05.size (fun j e => by omega))
  clear hP5 hF5 hT5 ho6 hb05
  go_wp2_with fail
  refine (tmWrite1_calls t (b % 128) 0 _ hT6).mono ?_
  rintro e w7 ⟨⟨_, rfl⟩, hT7, ho7⟩
  have hP7 := Blk.only hP6 ho7 (by omega)
  have hF7 := Blk.only hF6 ho7 (by omega)
  have hb07 := hb06.trans (ho7.below hb06.size (fun j e => by omega))
  clear hP6 hF6 hT6 ho7 hb06
  obtain ⟨R, hR⟩ : ∃ R, b % 128 = R := ⟨_, rfl⟩
  rw [hR] at hT7
  have hR1 : R < 128 := by omega
  go_wp2_with fail
  refine (tmUntil_calls t R R _ (by omega) hT7).mono ?_
  rintro e w8 ⟨rfl, nq, rfl⟩
  have hP8 : PB (w7.drewN nq) g gf 1 1 := hP7
  have hF8 : FB (w7.drewN nq) gf o' 2 c' 2 := hF7
  have hT8 : TB (w7.drewN nq) t R R true 3072 := hT7
  have hb08 : Below w.heap.size w (w7.drewN nq) := below_drewN hb07 nq
  generalize w7.drewN nq = w8 at *
  clear hP7 hF7 hT7 hb07
  obtain ⟨N, hN⟩ : ∃ N : Nat, 3072 * (R + 1) = N := ⟨_, rfl⟩
  rw [hN]
  have hN1 : (N : Int) ≤ 400000 := by omega
  go_wp2_with fail
  refine (tmGo_calls t R _ _ (by omega) ?_ hT8).mono ?_
  · omega
  rintro e w9 ⟨rfl, hT9, ho9⟩
  have hP9 := Blk.only hP8 ho9 (by omega)
  have hF9 := Blk.only hF8 ho9 (by omega)
  have hb09 := hb08.trans (ho9.below hb08.size (fun j e => by omega))
  clear hP8 hF8 hT8 ho9 hb08
  obtain ⟨u, hu⟩ : ∃ u, b / 16 = u := ⟨_, rfl⟩
  obtain ⟨v, hv⟩ : ∃ v, b % 16 = v := ⟨_, rfl⟩
  have e1 : (hi : Int) % 16 = (u : Int) := by omega
  have e2 : (lo : Int) % 16 = (v : Int) := by omega
  have e3 : (hi : Int) / 16 = 11 := by omega
  have e4 : (lo : Int) / 16 = 11 := by omega
  have e5 : (u : Int) * 16 + (v : Int) = (b : Int) := by omega
  have e6 : ((b : Int) == (b : Int)) = true := beq_self_eq_true _
  have e7 : (b : Int) % 128 = (R : Int) := by omega
  have e8 : ((R : Int) == (R : Int)) = true := beq_self_eq_true _
  have e9 : (u : Int) ≤ 15 := by omega
  have e10 : (v : Int) ≤ 15 := by omega
  have hl256 : (lo : Int) < 256 := by omega
  have hh256 : (hi : Int) < 256 := by omega
  have hb256 : (b : Int) < 256 := by omega
  have hlc := fun W => octLo_calls R W (by omega)
  rw [show R % 256 = R from by omega] at hlc
  clear hlo hlo' hhi hhi' hu hv hq0 hq1 hN hR htb
  go_wp2_with fail
  refine Cl.p (ptPad_calls g gf 1 1 _ hP9) ?_
  go_wp2_with fail
  refine Cl.p (ptTaken_calls g gf 1 1 o' 2 c' 2 _ hP9 hF9) ?_
  go_wp2_with fail
  refine Cl.p (tmReload_calls t R R true 3072 _ hT9) ?_
  go_wp2_with fail
  refine Cl.p (hlc _) ?_
  go_wp2_with fail
  go_ret
  exact ⟨rfl, hb09⟩
section
open Go.ChangeShapes Go.WideShapes Go.ChangeAt
variable {H : Type} {enc : TypeId × Value → H} {W : World} {base : Nat}
theorem walk_TopPads {v0 : Value} {d0 : DataW H} {p0 : List MemPlace}
    (_hsh : W.ShapedOpen Try.prog) (_hsz : (DataW.weightsEach Try.prog [5] [d0]).all (· ≤ reachBytes) = true)
    (hv0 : Value.okWide Try.prog W .any base 5 v0) (hd0 : DataW.Trod enc Try.prog W 0 (fun _ => true) true 5 v0 d0 p0) :
    Calls Try.prog 3 #[v0] W fun e W' => e = .returned (.bool true) ∧ Below W.heap.size W W' := by
  obtain ⟨x0, rfl, h0⟩ := open_u8 Try.underlying5 hv0 hd0
  exact topPads_calls x0 W h0
end
end Go.Proofs.Ytffdlghfdmeddaa
