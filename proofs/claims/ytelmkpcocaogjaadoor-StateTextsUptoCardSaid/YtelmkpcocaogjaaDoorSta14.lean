/-
  gannetref25: h, Text.
-/
import Derived.Test.YtelmkpcocaogjaaDoorSta13
import Derived.BigQuiet
import Derived.Deep.QuietTactic
namespace Go.Proofs.YtelmkpcocaogjaaDoor
open Go.RowKit Pl

theorem rH_calls (n : Nat) (w : World) (hn : n < 256) :
    Calls Tryd.prog 35 #[.int .u8 (n : Int)] w fun e w' => e = .returned (.string (str (hx n))) ∧ w = w' := by
  have hh : ∀ w, Calls Tryd.prog 37 #[.int .u32 (n : Int), .int .i64 2] w fun e w' => e = .returned (.string (str (hx n))) ∧ w = w' := fun w => refHex_calls n 2 w (by omega) (by decide) (by decide)
  go_enter Tryd.func35, Tryd.ntmps35
  (go_wp2_with fail; refine Cl.p (hh _) ?_)
  go_wp2_with fail
  go_ret
  exact ⟨rfl, rfl⟩
theorem rHex4_calls (n : Nat) (w : World) (hn : n < 65536) : Calls Tryd.prog 37 #[.int .u32 (n : Int), .int .i64 4] w fun e w' => e = .returned (.string (str (hexT n 4))) ∧ w = w' :=
  refHex_calls n 4 w (by omega) (by decide) (by decide)
def bk (R : Nat → Nat) (k : Nat) : List UInt8 := Lib.join ((List.range k).map fun j => hx (R (6 + j))) [46]
theorem join_snoc (x s : List UInt8) : ∀ (l : List (List UInt8)), l ≠ [] → Lib.join (l ++ [x]) s = Lib.join l s ++ s ++ x
  | [], h => absurd rfl h
  | [y], _ => by
    show Lib.join (y :: x :: []) s = _
    rw [join_two, Lib.join_one, Lib.join_one]
  | y :: z :: r, _ => by
    show Lib.join (y :: z :: (r ++ [x])) s = _
    rw [join_two, join_two, show z :: (r ++ [x]) = (z :: r) ++ [x] from rfl, join_snoc x s (z :: r) (by simp)]
    simp
theorem bk_one (R : Nat → Nat) : bk R 1 = hx (R 6) := Lib.join_one _ _
theorem bk_snoc (R : Nat → Nat) (k : Nat) (hk : 0 < k) : bk R (k + 1) = bk R k ++ [46] ++ hx (R (6 + k)) := by
  unfold bk
  rw [List.range_succ, List.map_append]
  exact join_snoc _ _ _ (by simp; omega)
theorem bk_len (R : Nat → Nat) : ∀ k, (bk R k).length ≤ 3 * k
  | 0 => Nat.le_refl 0
  | k + 1 => by
    by_cases h : k = 0
    · subst h; rw [bk_one]; exact (show 2 ≤ 3 from by decide)
    · have := bk_len R k
      rw [bk_snoc R k (by omega)]
      simp only [List.length_append]
      have h2 : (hx (R (6 + k))).length = 2 := rfl
      rw [h2]
      simp
      omega
theorem text_cat (R : Nat → Nat) (f : List UInt8) (h : spd (R 15) = f) :
    str [65, 61] ++ str (hx (R 0)) ++ str [32, 88, 61] ++ str (hx (R 1)) ++ str [32, 89, 61] ++ str (hx (R 2)) ++ str [32, 83, 61] ++ str (hx (R 3)) ++ str [32, 80, 61] ++ str (txt (R 4)) ++ str [32, 80, 67, 61] ++ str (hexT (R 5) 4) ++ str [32, 77, 61] ++ str (bk R 8) ++ str [32, 76, 61] ++ str (hx (R 14)) ++ str (32 :: f) = str (tS R) := by
  have e : bk R 8 = Lib.join (bkL R) [46] := rfl
  rw [e]
  simp only [str_app]
  unfold tS prt
  rw [h]
  generalize Lib.join (bkL R) [46] = m
  simp only [join_two, Lib.join_one, List.append_assoc, List.cons_append, List.nil_append]
theorem str_size (l : List UInt8) : (str l).size = l.length := by simp [str, ByteArray.size]
set_option maxRecDepth 100000 in
set_option maxHeartbeats 4000000 in
theorem rText_calls (R : Nat → Nat) (w : World) (hR : ROk R) :
    Calls Tryd.prog 11 #[.agg (stA R)] w fun e w' => e = .returned (.string (str (tS R))) ∧ Below w.heap.size w w' := by
  have hX : Blk (w.alloc (.cells (stA R) 25)) w.heap.size 25 (stA R) := Blk.new _ _ _
  have hbA : Below w.heap.size w (w.alloc (.cells (stA R) 25)) := Bl.alloc (Below.refl _ _) _
  go_enter Tryd.func11, Tryd.ntmps11
  go_wp2_with fail
  generalize w.alloc (.cells (stA R) 25) = w0 at *
  go_loop [3, 4] (fun s i => ∃ k : Nat, k ≤ 8 ∧ i = .int .i64 (k : Int) ∧ s = .string (str (bk R k))) (fun _ i => 8 - (intOf i).toNat)
  case atStart => exact ⟨0, Nat.zero_le _, rfl, rfl⟩
  case round =>
    obtain ⟨k, hk, rfl, rfl⟩ := hrel
    by_cases hlt : k < 8
    · have hlt' : (k : Int) < 8 := by omega
      have hRk := hR.b (6 + k) (by omega) (by omega)
      have c0 : w0.cell? ⟨w.heap.size, 6 + k, none⟩ = some (.int .u8 (R (6 + k) : Int)) := by
        rw [hX.cell]
        match k, hlt with
        | 0, _ | 1, _ | 2, _ | 3, _ | 4, _ | 5, _ | 6, _ | 7, _ => rfl
      have hz2 : (str (hx (R (6 + k)))).size = 2 := rfl
      have hlen := bk_len R k
      have hzk : (str (bk R k)).size ≤ 24 := by rw [str_size]; omega
      by_cases h0 : k = 0
      · subst h0
        have hcat : str (bk R 0) ++ str (hx (R 6)) = str (bk R 1) := by rw [str_app, bk_one]; rfl
        have HC := hide hcat
        have i0 : (decide ((0 : Int) < ((0 : Nat) : Int))) = false := rfl
        clear hcat hlen
        go_wp2_with fail
        refine Cl.p (rH_calls (R 6) _ hRk) ?_
        go_wp2_with fail
        go_round
        case rel => exact ⟨1, by omega, rfl, by rw [← HC.out]⟩
        case measure => simp [intOf]
      · have hcat : str (bk R k) ++ ⟨#[46]⟩ ++ str (hx (R (6 + k))) = str (bk R (k + 1)) := by
          show str (bk R k) ++ str [46] ++ _ = _
          rw [str_app, str_app, bk_snoc R k (by omega)]
        have HC := hide hcat
        have i0 : (0 : Int) < (k : Int) := by omega
        have i0n : 0 < k := by omega
        clear hcat h0 hlen
        go_wp2_with fail
        refine Cl.p (rH_calls (R (6 + k)) _ hRk) ?_
        go_wp2_with fail
        go_round
        case rel => exact ⟨k + 1, by omega, by go_num, by rw [← HC.out]⟩
        case measure => simp [intOf]; omega
    · obtain rfl : k = 8 := by omega
      have q := fun i => hX.cell i
      have x0 : w0.cell? ⟨w.heap.size, 0, none⟩ = some (.int .u8 (R 0 : Int)) := q 0
      have x1 : w0.cell? ⟨w.heap.size, 1, none⟩ = some (.int .u8 (R 1 : Int)) := q 1
      have x2 : w0.cell? ⟨w.heap.size, 2, none⟩ = some (.int .u8 (R 2 : Int)) := q 2
      have x3 : w0.cell? ⟨w.heap.size, 3, none⟩ = some (.int .u8 (R 3 : Int)) := q 3
      have x4 : w0.cell? ⟨w.heap.size, 4, none⟩ = some (.int .u8 (R 4 : Int)) := q 4
      have x5 : w0.cell? ⟨w.heap.size, 5, none⟩ = some (.int .u16 (R 5 : Int)) := q 5
      have x14 : w0.cell? ⟨w.heap.size, 14, none⟩ = some (.int .u8 (R 14 : Int)) := q 14
      have x15 : w0.cell? ⟨w.heap.size, 15, none⟩ = some (.bool (R 15 == 1)) := q 15
      have z0 : (str (hx (R 0))).size = 2 := rfl
      have z1 : (str (hx (R 1))).size = 2 := rfl
      have z2 : (str (hx (R 2))).size = 2 := rfl
      have z3 : (str (hx (R 3))).size = 2 := rfl
      have z14 : (str (hx (R 14))).size = 2 := rfl
      have zt : (⟨(txt (R 4)).toArray⟩ : ByteArray).size = 8 := rfl
      have z5 : (str (hexT (R 5) 4)).size = 4 := rfl
      have zb : (str (bk R 8)).size = 23 := rfl
      have e5 : IntKind.u32.wrap ((R 5 : Nat) : Int) = (R 5 : Int) := by have := hR.w 5 (by omega); rw [IntKind.wrap_u32]; omega
      have a0 := hR.b 0 (by decide) (by decide)
      have a1 := hR.b 1 (by decide) (by decide)
      have a2 := hR.b 2 (by decide) (by decide)
      have a3 := hR.b 3 (by decide) (by decide)
      have a4 := hR.b 4 (by decide) (by decide)
      have a5 := hR.w 5 (by decide)
      have a14 := hR.b 14 (by decide) (by decide)
      have hcase : (R 15 == 1) = true ∧ R 15 = 1 ∨ (R 15 == 1) = false ∧ R 15 = 0 := by
        have := hR.2.2
        by_cases h : R 15 = 1
        · left; rw [h]; exact ⟨rfl, rfl⟩
        · right
          have h0 : R 15 = 0 := by omega
          rw [h0]; exact ⟨rfl, rfl⟩
      clear q hX
      rcases hcase with ⟨hq, h1⟩ | ⟨hq, h1⟩
      all_goals
        rw [hq] at x15
        have H1 := hide h1
        clear hq h1
        go_wp2_with fail
        go_quiet ((first
          | (go_at_call 37; first | exact quiet_left (rHex4_calls (R 5) _ a5) | exact quiet_add_left (rHex4_calls (R 5) _ a5))
          | (go_at_call 36; first | exact quiet_left (r20Text_calls (R 4) _ a4) | exact quiet_add_left (r20Text_calls (R 4) _ a4))
          | (go_at_call 35; first | exact quiet_left (rH_calls _ _ (by assumption)) | exact quiet_add_left (rH_calls _ _ (by assumption)))))
        go_wp2_with fail
        go_ret
        refine ⟨?_, below_drewN hbA _⟩
        first
          | exact congrArg (fun b : ByteArray => Ending.returned (Value.string b)) (text_cat R [102, 97, 115, 116] (by rw [H1.out]; rfl))
          | exact congrArg (fun b : ByteArray => Ending.returned (Value.string b)) (text_cat R [115, 108, 111, 119] (by rw [H1.out]; rfl))
end Go.Proofs.YtelmkpcocaogjaaDoor
