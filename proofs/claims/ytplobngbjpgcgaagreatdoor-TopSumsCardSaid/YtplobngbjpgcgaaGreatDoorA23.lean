/-
  The texts Adder, Adder2, Dig21 of the proof of TopSums, as one file (they are merged by a program).
-/
import Derived.Test.YtplobngbjpgcgaaGreatDoorA1
import Derived.Test.YtplobngbjpgcgaaGreatDoorA19
import Derived.Test.YtplobngbjpgcgaaGreatDoorA22
import Derived.WalkMore
import Derived.ScopeJumps
import Derived.Laws.OwnMore
import Derived.OwnWalk
section
/-
  Package adder: carry, of, binary, more, less, both, Add, Sub, Compare.
-/
namespace Go.Proofs.YtplobngbjpgcgaaGreatDoor
set_option linter.unusedSimpArgs false
set_option linter.unusedVariables false
set_option maxRecDepth 10000
open Go.RowKit Pl

/-- A scope of which one jump forward is taken. -/
theorem wp_scope_once {P : Program} {a : Act} {w : World} {Q : Exit → Act → World → Prop} {c rest : Code} (l : Nat) (A : Act) (W : World) (hf : findLabel c l = some rest)
    (first : c.wp P (Exit.jump l (fun a' w' => a' = A ∧ w' = W) Q) a w) (pass : rest.wp P (Exit.jump l (fun a' w' => (a' = A ∧ w' = W) ∧ 0 < 0) Q) A W) : (Code.scope c).wp P Q a w :=
  wp_scope_jumps l _ (fun _ _ => 0) hf first (by rintro _ _ ⟨rfl, rfl⟩; exact pass)

theorem adCarry_calls (p : Nat) (w : World) (hp : p < 256) :
    Calls Tryz.prog 134 #[.int .u8 (p : Int)] w fun e w' => e = .returned (.int .i64 (car p : Nat)) ∧ w = w' := by
  have h : bits .and .u8 (p : Int) 1 = ((car p : Nat) : Int) := by rw [← car_and]; exact u8_and_nat p 1 hp (by omega)
  have hc := car_le p
  go_enter Tryz.func134, Tryz.ntmps134
  go_wp2
  go_ret
  exact ⟨rfl, rfl⟩

theorem adOf_calls (p r : Nat) (out : Bool) (w : World) (hp : p < 256) (hr : r < 256) :
    Calls Tryz.prog 136 #[.int .u8 (p : Int), .int .u8 (r : Int), .bool out] w fun e w' => e = .returned (.int .u8 (ofF p r out : Nat)) ∧ w = w' := by
  go_enter Tryz.func136, Tryz.ntmps136
  (go_wp2_with fail; refine Cl.p (flSet_calls p 1 out _ hp (by omega)) ?_)
  (go_wp2_with fail; refine Cl.p (flResult_calls _ r _ (fset_lt hp (by omega)) hr) ?_)
  go_wp2_with fail
  go_ret
  exact ⟨rfl, rfl⟩

theorem adBinary_calls (a b p : Nat) (w : World) (ha : a < 256) (hb : b < 256) (hp : p < 256) :
    Calls Tryz.prog 132 #[.int .u8 (a : Int), .int .u8 (b : Int), .int .u8 (p : Int)] w fun e w' => e = .returned (.tuple #[.int .u8 (baddR a b p : Nat), .int .u8 (baddP a b p : Nat)]) ∧ w = w' := by
  obtain ⟨c, hce⟩ : ∃ c, car p = c := ⟨_, rfl⟩
  have hc : c ≤ 1 := hce ▸ car_le p
  obtain ⟨r, hre⟩ : ∃ r, (a + b + c) % 256 = r := ⟨_, rfl⟩
  have hr : r < 256 := by omega
  have hsum : ((a : Int) + (b : Int) + (c : Int)) % 256 = (r : Int) := by omega
  have hx : bits .xor .u8 (a : Int) (r : Int) = ((a ^^^ r : Nat) : Int) := u8_xor_nat a _ ha hr
  have hy : bits .xor .u8 (b : Int) (r : Int) = ((b ^^^ r : Nat) : Int) := u8_xor_nat b _ hb hr
  have hx2 := xor_lt ha hr
  have hy2 := xor_lt hb hr
  have hz : bits .and .u8 ((a ^^^ r : Nat) : Int) ((b ^^^ r : Nat) : Int) = (((a ^^^ r) &&& (b ^^^ r) : Nat) : Int) := u8_and_nat _ _ hx2 hy2
  have hz2 : (a ^^^ r) &&& (b ^^^ r) < 256 := and_lt hy2
  have ht : bits .and .u8 (((a ^^^ r) &&& (b ^^^ r) : Nat) : Int) 128 = (((((a ^^^ r) &&& (b ^^^ r)) &&& 128) : Nat) : Int) := u8_and_nat _ 128 hz2 (by omega)
  have hov : ((((((a ^^^ r) &&& (b ^^^ r)) &&& 128) : Nat) : Int) != 0) = ovf a b c := by rw [natCast_bne, ← hre]; exact ovf_bits a b c ha hb hc
  have hout : decide ((255 : Int) < (a : Int) + (b : Int) + (c : Int)) = decide (255 < a + b + c) := by rw [decide_eq_decide]; omega
  have hend : .tuple #[.int .u8 (r : Int), .int .u8 ((ofF (fset p 64 (ovf a b c)) r (decide (255 < a + b + c)) : Nat) : Int)] = Value.tuple #[.int .u8 (baddR a b p : Nat), .int .u8 (baddP a b p : Nat)] := by
    unfold baddP baddR
    rw [hce, hre]
  rw [← hend]
  generalize ovf a b c = o at *
  generalize (a ^^^ r) = x1 at *
  generalize (b ^^^ r) = x2 at *
  generalize (x1 &&& x2) = x3 at *
  generalize (x3 &&& 128) = x4 at *
  generalize decide (255 < a + b + c) = y at *
  have Hce := hide hce
  have Hov := hide hov
  have Hout := hide hout
  clear hce hre hend hov hout
  go_enter Tryz.func132, Tryz.ntmps132
  (go_wp2_with fail; refine Cl.p (adCarry_calls p _ hp) ?_)
  rw [Hce.out]
  go_wp2_with fail
  rw [Hov.out]
  refine Cl.p (flSet_calls p 64 o _ hp (by omega)) ?_
  go_wp2_with fail
  rw [Hout.out]
  refine Cl.p (adOf_calls (fset p 64 o) r y _ (fset_lt hp (by omega)) hr) ?_
  go_wp2_with fail
  go_ret2
  exact ⟨rfl, rfl⟩

theorem i64_and15 : ∀ n : Nat, n < 64 → bits .and .i64 (n : Int) 15 = ((n % 16 : Nat) : Int) := by decide +kernel
theorem u8_and15 : ∀ n : Nat, n < 256 → bits .and .u8 (n : Int) 15 = ((n % 16 : Nat) : Int) := by decide +kernel
theorem i64_or16 : ∀ h : Nat, h < 16 → ∀ l : Nat, l < 16 → bits .or .i64 ((h * 16 : Nat) : Int) (l : Int) = ((h * 16 + l : Nat) : Int) := by decide +kernel
theorem i64_neg15 : ∀ k : Nat, k < 26 → bits .and .i64 ((k : Int) - 16 + 10) 15 = ((k : Int) - 16 + 10) % 16 := by decide +kernel
theorem adMore_calls (a b c : Nat) (w : World) (ha : a ≤ 15) (hb : b ≤ 15) (hc : c ≤ 1) :
    Calls Tryz.prog 137 #[.int .i64 (a : Int), .int .i64 (b : Int), .int .i64 (c : Int)] w fun e w' => e = .returned (.tuple #[.int .i64 ((dig (a + b + c) % 16 : Nat) : Int), .int .i64 ((if 16 ≤ dig (a + b + c) then 1 else 0 : Nat) : Int)]) ∧ w = w' := by
  have hd : dig (a + b + c) ≤ 37 := dig_le _ (by omega)
  by_cases h : a + b + c < 10
  · have e : dig (a + b + c) = a + b + c := if_pos h
    have hd2 : (if 16 ≤ dig (a + b + c) then 1 else 0 : Nat) = 0 := by rw [e, if_neg (by omega)]
    have h15 : bits .and .i64 ((a : Int) + (b : Int) + (c : Int)) 15 = ((dig (a + b + c) % 16 : Nat) : Int) := by rw [e, ← i64_and15 (a + b + c) (by omega)]; rfl
    rw [hd2]
    generalize dig (a + b + c) = q at *
    have Hd2 := hide hd2
    have E := hide e
    clear e hd2
    go_enter Tryz.func137, Tryz.ntmps137
    go_wp2_with fail
    apply wp_scope_once 0 _ _ rfl
    · go_wp2_with fail
      go_step3
      exact ⟨rfl, rfl, rfl⟩
    · go_wp2_with fail
      simp only [Exit.jump]
      go_ret2
      exact ⟨ret_ints (by first | rfl | omega | exact h15) (by omega), rfl⟩
  · have e : dig (a + b + c) = a + b + c + 6 := if_neg h
    have hd2 : (if 16 ≤ dig (a + b + c) then 1 else 0 : Nat) = 1 := by rw [e, if_pos (by omega)]
    have h15 : bits .and .i64 ((a : Int) + (b : Int) + (c : Int) + 6) 15 = ((dig (a + b + c) % 16 : Nat) : Int) := by rw [e, ← i64_and15 (a + b + c + 6) (by omega)]; rfl
    rw [hd2]
    generalize dig (a + b + c) = q at *
    have Hd2 := hide hd2
    have E := hide e
    clear e hd2
    go_enter Tryz.func137, Tryz.ntmps137
    go_wp2_with fail
    go_step3
    go_wp2_with fail
    go_step3
    go_wp2_with fail
    all_goals
      try rw [Exit.noGoto_ret]
      go_ret2
      exact ⟨ret_ints (by first | rfl | omega | exact h15) (by omega), rfl⟩

/-- What is borrowed. -/
def bor (n : Int) : Nat := if 0 ≤ n then 0 else 1
theorem adLess_calls (a b c : Nat) (w : World) (ha : a ≤ 15) (hb : b ≤ 15) (hc : c ≤ 1) :
    Calls Tryz.prog 135 #[.int .i64 (a : Int), .int .i64 (b : Int), .int .i64 (c : Int)] w fun e w' => e = .returned (.tuple #[.int .i64 (sdig ((a : Int) - b - c) % 16), .int .i64 (bor ((a : Int) - b - c) : Nat)]) ∧ w = w' := by
  by_cases h : 0 ≤ (a : Int) - b - c
  · have e : sdig ((a : Int) - b - c) = (a : Int) - b - c := if_pos h
    have hd2 : bor ((a : Int) - b - c) = 0 := if_pos h
    have h15 : bits .and .i64 ((a : Int) - b - c) 15 = sdig ((a : Int) - b - c) % 16 := by
      have h2 := i64_and15 (a - b - c) (by omega)
      rw [show ((a - b - c : Nat) : Int) = (a : Int) - b - c from by omega] at h2
      rw [e, h2]
      omega
    rw [hd2]
    generalize sdig ((a : Int) - b - c) = q at *
    have Hd2 := hide hd2
    have E := hide e
    clear e hd2
    go_enter Tryz.func135, Tryz.ntmps135
    go_wp2_with fail
    apply wp_scope_once 0 _ _ rfl
    · go_wp2_with fail
      go_step3
      exact ⟨rfl, rfl, rfl⟩
    · go_wp2_with fail
      simp only [Exit.jump]
      go_ret2
      exact ⟨ret_ints (by first | rfl | omega | exact h15) (by first | rfl | omega), rfl⟩
  · have e : sdig ((a : Int) - b - c) = (a : Int) - b - c + 10 := if_neg h
    have hd2 : bor ((a : Int) - b - c) = 1 := if_neg h
    have h15 : bits .and .i64 ((a : Int) - b - c + 10) 15 = sdig ((a : Int) - b - c) % 16 := by
      have h2 := i64_neg15 (a + 16 - b - c) (by omega)
      rw [show ((a + 16 - b - c : Nat) : Int) - 16 + 10 = (a : Int) - b - c + 10 from by omega] at h2
      rw [e, h2]
    rw [hd2]
    generalize sdig ((a : Int) - b - c) = q at *
    have Hd2 := hide hd2
    have E := hide e
    clear e hd2
    go_enter Tryz.func135, Tryz.ntmps135
    go_wp2_with fail
    go_step3
    go_wp2_with fail
    go_step3
    go_wp2_with fail
    all_goals
      try rw [Exit.noGoto_ret]
      go_ret2
      exact ⟨ret_ints (by first | rfl | omega | exact h15) (by first | rfl | omega), rfl⟩

/-- 'both', of the one function, and of the other. -/
theorem adBothMore_calls (a b c : Nat) (w : World) (ha : a < 256) (hb : b < 256) (hc : c ≤ 1) :
    Calls Tryz.prog 133 #[.int .u8 (a : Int), .int .u8 (b : Int), .int .i64 (c : Int), .func (.func 137) #[] #[]] w fun e w' => e = .returned (.tuple #[.int .u8 ((dhi a b c % 16 * 16 + dlo a b c % 16 : Nat) : Int), .int .i64 ((if 16 ≤ dhi a b c then 1 else 0 : Nat) : Int)]) ∧ w = w' := by
  have h1 := u8_and15 a ha
  have h2 := u8_and15 b hb
  obtain ⟨q, hq⟩ : ∃ q : Nat, (if 16 ≤ dlo a b c then 1 else 0) = q := ⟨_, rfl⟩
  have hq1 : q ≤ 1 := by rw [← hq]; split <;> omega
  have ha' : (a : Int) / 16 = ((a / 16 : Nat) : Int) := by omega
  have hb' : (b : Int) / 16 = ((b / 16 : Nat) : Int) := by omega
  have hdl : dig (a % 16 + b % 16 + c) = dlo a b c := rfl
  have hdh : dig (a / 16 + b / 16 + q) = dhi a b c := by rw [← hq]; rfl
  obtain ⟨q2, hq2⟩ : ∃ q2 : Nat, (if 16 ≤ dhi a b c then 1 else 0) = q2 := ⟨_, rfl⟩
  have hor : bits .or .i64 ((dhi a b c : Int) % 16 * 16) ((dlo a b c : Int) % 16) = ((dhi a b c % 16 * 16 + dlo a b c % 16 : Nat) : Int) := i64_or16 (dhi a b c % 16) (Nat.mod_lt _ (by omega)) (dlo a b c % 16) (Nat.mod_lt _ (by omega))
  rw [hq2]
  generalize dlo a b c = l at *
  generalize dhi a b c = h at *
  have Hdl := hide hdl
  have Hdh := hide hdh
  have Hq := hide hq
  have Hq2 := hide hq2
  have Ha := hide ha'
  have Hb := hide hb'
  clear hdl hdh hq hq2 ha' hb'
  go_enter Tryz.func133, Tryz.ntmps133
  go_wp2_with fail
  refine Cl.p (adMore_calls (a % 16) (b % 16) c _ (by omega) (by omega) hc) ?_
  rw [Hdl.out, Hq.out]
  go_wp2_with fail
  rw [Ha.out, Hb.out]
  refine Cl.p (adMore_calls (a / 16) (b / 16) q _ (by omega) (by omega) hq1) ?_
  rw [Hdh.out, Hq2.out]
  go_wp2_with fail
  go_ret2
  exact ⟨ret_ints (by omega) rfl, rfl⟩

/-- A decimal difference, as 'both' answers it: c is borrowed ahead. -/
def lo2 (a b c : Nat) : Int := (a % 16 : Nat) - (b % 16 : Nat) - (c : Int)
def hi2 (a b c : Nat) : Int := (a / 16 : Nat) - (b / 16 : Nat) - (bor (lo2 a b c) : Int)
theorem adBothLess_calls (a b c : Nat) (w : World) (ha : a < 256) (hb : b < 256) (hc : c ≤ 1) :
    Calls Tryz.prog 133 #[.int .u8 (a : Int), .int .u8 (b : Int), .int .i64 (c : Int), .func (.func 135) #[] #[]] w fun e w' => e = .returned (.tuple #[.int .u8 (sdig (hi2 a b c) % 16 * 16 + sdig (lo2 a b c) % 16), .int .i64 (bor (hi2 a b c) : Nat)]) ∧ w = w' := by
  have h1 := u8_and15 a ha
  have h2 := u8_and15 b hb
  have hq1 : bor (lo2 a b c) ≤ 1 := by unfold bor; split <;> omega
  have ha' : (a : Int) / 16 = ((a / 16 : Nat) : Int) := by omega
  have hb' : (b : Int) / 16 = ((b / 16 : Nat) : Int) := by omega
  have hdl : ((a % 16 : Nat) : Int) - (b % 16 : Nat) - (c : Int) = lo2 a b c := rfl
  have hdh : ((a / 16 : Nat) : Int) - (b / 16 : Nat) - (bor (lo2 a b c) : Int) = hi2 a b c := rfl
  have hor : bits .or .i64 (sdig (hi2 a b c) % 16 * 16) (sdig (lo2 a b c) % 16) = sdig (hi2 a b c) % 16 * 16 + sdig (lo2 a b c) % 16 := by
    obtain ⟨x, hx⟩ : ∃ x : Nat, sdig (hi2 a b c) % 16 = x := ⟨(sdig (hi2 a b c) % 16).toNat, by omega⟩
    obtain ⟨y, hy⟩ : ∃ y : Nat, sdig (lo2 a b c) % 16 = y := ⟨(sdig (lo2 a b c) % 16).toNat, by omega⟩
    rw [hx, hy]
    exact i64_or16 x (by omega) y (by omega)
  have hm1 : 0 ≤ sdig (lo2 a b c) % 16 ∧ sdig (lo2 a b c) % 16 < 16 := by omega
  have hm2 : 0 ≤ sdig (hi2 a b c) % 16 ∧ sdig (hi2 a b c) % 16 < 16 := by omega
  generalize hlg : lo2 a b c = l at *
  generalize hhg : hi2 a b c = h at *
  obtain ⟨x, hx⟩ : ∃ x, sdig l % 16 = x := ⟨_, rfl⟩
  obtain ⟨y, hy⟩ : ∃ y, sdig h % 16 = y := ⟨_, rfl⟩
  obtain ⟨q, hq⟩ : ∃ q, bor l = q := ⟨_, rfl⟩
  obtain ⟨q2, hq2⟩ : ∃ q2, bor h = q2 := ⟨_, rfl⟩
  rw [hx, hy] at hor
  rw [hx] at hm1
  rw [hy] at hm2
  rw [hq] at hq1 hdh
  rw [hx, hy, hq2]
  have Hdl := hide hdl
  have Hdh := hide hdh
  have Hx := hide hx
  have Hy := hide hy
  have Hq := hide hq
  have Hq2 := hide hq2
  have Ha := hide ha'
  have Hb := hide hb'
  clear hdl hdh hx hy hq hq2 ha' hb' hlg hhg
  obtain ⟨hm1a, hm1b⟩ := hm1
  obtain ⟨hm2a, hm2b⟩ := hm2
  go_enter Tryz.func133, Tryz.ntmps133
  go_wp2_with fail
  refine Cl.p (adLess_calls (a % 16) (b % 16) c _ (by omega) (by omega) hc) ?_
  rw [Hdl.out, Hq.out, Hx.out]
  go_wp2_with fail
  rw [Ha.out, Hb.out]
  refine Cl.p (adLess_calls (a / 16) (b / 16) q _ (by omega) (by omega) hq1) ?_
  rw [Hdh.out, Hq2.out, Hy.out]
  go_wp2_with fail
  go_ret2
  exact ⟨ret_ints (by first | rfl | omega) rfl, rfl⟩

/-- What a sum, and a difference, answer. -/
def sumV (r p : Nat) (x : Bool) : Value := .tuple #[.int .u8 (r : Int), .int .u8 (p : Int), .bool x]
theorem adAdd_calls (a b p : Nat) (w : World) (ha : a < 256) (hb : b < 256) (hp : p < 256) :
    Calls Tryz.prog 73 #[.int .u8 (a : Int), .int .u8 (b : Int), .int .u8 (p : Int)] w fun e w' => e = .returned (sumV (addR a b p) (addP a b p) (tb p 3)) ∧ w = w' := by
  have hD : fis p 8 = tb p 3 := fis_tb p 3 (by omega)
  have hc := car_le p
  cases ht : tb p 3
  · have e : sumV (addR a b p) (addP a b p) false = .tuple #[.int .u8 (baddR a b p : Nat), .int .u8 (baddP a b p : Nat), .bool false] := by unfold sumV addR addP; rw [ht]; rfl
    rw [ht] at hD
    rw [e]
    have HD := hide hD
    clear hD ht e
    go_enter Tryz.func73, Tryz.ntmps73
    (go_wp2_with fail; refine Cl.p (flIs_calls p 8 _ hp (by omega)) ?_)
    rw [HD.out]
    (go_wp2_with fail; refine Cl.p (adBinary_calls a b p _ ha hb hp) ?_)
    go_wp2_with fail
    go_ret3
    exact ⟨rfl, rfl⟩
  · have e : sumV (addR a b p) (addP a b p) true = .tuple #[.int .u8 (daddR a b p : Nat), .int .u8 (daddP a b p : Nat), .bool true] := by unfold sumV addR addP; rw [ht]; rfl
    have e2 : dhi a b (car p) % 16 * 16 + dlo a b (car p) % 16 = daddR a b p := rfl
    have e3 : (((if 16 ≤ dhi a b (car p) then 1 else 0 : Nat) : Int) != 0) = decide (16 ≤ dhi a b (car p)) := by split <;> simp_all
    have e4 : ofF p (daddR a b p) (decide (16 ≤ dhi a b (car p))) = daddP a b p := rfl
    have hr := daddR_lt a b p
    rw [ht] at hD
    rw [e]
    have HD := hide hD
    obtain ⟨q, hq⟩ : ∃ q : Nat, (if 16 ≤ dhi a b (car p) then 1 else 0) = q := ⟨_, rfl⟩
    rw [hq] at e3
    generalize decide (16 ≤ dhi a b (car p)) = y at *
    have E2 := hide e2
    have E3 := hide e3
    have E4 := hide e4
    have Hq := hide hq
    clear hD ht e e2 e3 e4 hq
    go_enter Tryz.func73, Tryz.ntmps73
    (go_wp2_with fail; refine Cl.p (flIs_calls p 8 _ hp (by omega)) ?_)
    rw [HD.out]
    (go_wp2_with fail; refine Cl.p (adCarry_calls p _ hp) ?_)
    (go_wp2_with fail; refine Cl.p (adBothMore_calls a b (car p) _ ha hb hc) ?_)
    rw [E2.out, Hq.out]
    go_wp2_with fail
    rw [E3.out]
    refine Cl.p (adOf_calls p (daddR a b p) y _ hp hr) ?_
    rw [E4.out]
    go_wp2_with fail
    go_ret3
    exact ⟨rfl, rfl⟩
end Go.Proofs.YtplobngbjpgcgaaGreatDoor
end
section
/-
  Package adder: Sub, Compare, Digits. gannetref01.Same.
-/
namespace Go.Proofs.YtplobngbjpgcgaaGreatDoor
set_option linter.unusedSimpArgs false
set_option linter.unusedVariables false
set_option maxRecDepth 10000
open Go.RowKit Pl

theorem lo2_slo (a b p : Nat) : lo2 a b (1 - car p) = slo a b (car p) := by have := car_le p; unfold lo2 slo; omega
theorem hi2_shi (a b p : Nat) : hi2 a b (1 - car p) = shi a b (car p) := by
  unfold hi2 shi bor
  rw [lo2_slo]
  by_cases h : slo a b (car p) < 0
  · rw [if_neg (by omega), if_pos h]; rfl
  · rw [if_pos (by omega), if_neg h]; rfl
theorem u8_compl : ∀ b : Nat, b < 256 → bits .xor .u8 IntKind.u8.max (b : Int) = ((255 - b : Nat) : Int) := by decide +kernel
theorem adSub_calls (a b p : Nat) (w : World) (ha : a < 256) (hb : b < 256) (hp : p < 256) :
    Calls Tryz.prog 72 #[.int .u8 (a : Int), .int .u8 (b : Int), .int .u8 (p : Int)] w fun e w' => e = .returned (sumV (subR a b p) (subP a b p) (tb p 3)) ∧ w = w' := by
  have hD : fis p 8 = tb p 3 := fis_tb p 3 (by omega)
  have hc := car_le p
  cases ht : tb p 3
  · have e : sumV (subR a b p) (subP a b p) false = .tuple #[.int .u8 (baddR a (255 - b) p : Nat), .int .u8 (baddP a (255 - b) p : Nat), .bool false] := by unfold sumV subR subP; rw [ht]; rfl
    have hn := u8_compl b hb
    have Hn := hide hn
    rw [ht] at hD
    rw [e]
    have HD := hide hD
    clear hD ht e hn
    go_enter Tryz.func72, Tryz.ntmps72
    (go_wp2_with fail; refine Cl.p (flIs_calls p 8 _ hp (by omega)) ?_)
    rw [HD.out]
    go_wp2_with fail
    rw [Hn.out]
    refine Cl.p (adBinary_calls a (255 - b) p _ ha (by omega) hp) ?_
    go_wp2_with fail
    go_ret3
    exact ⟨rfl, rfl⟩
  · have e : sumV (subR a b p) (subP a b p) true = .tuple #[.int .u8 (dsubR a b p : Nat), .int .u8 (dsubP a b p : Nat), .bool true] := by unfold sumV subR subP; rw [ht]; rfl
    have e2 : sdig (hi2 a b (1 - car p)) % 16 * 16 + sdig (lo2 a b (1 - car p)) % 16 = ((dsubR a b p : Nat) : Int) := by rw [lo2_slo, hi2_shi]; unfold dsubR; omega
    have e3 : (((bor (hi2 a b (1 - car p)) : Nat) : Int) == 0) = decide (0 ≤ shi a b (car p)) := by rw [hi2_shi]; unfold bor; split <;> simp_all
    have e4 : ofF p (dsubR a b p) (decide (0 ≤ shi a b (car p))) = dsubP a b p := rfl
    have e5 : (1 : Int) - (car p : Int) = ((1 - car p : Nat) : Int) := by omega
    have hr := dsubR_lt a b p
    have hc1 : 1 - car p ≤ 1 := by omega
    rw [ht] at hD
    rw [e]
    have HD := hide hD
    obtain ⟨q, hq⟩ : ∃ q : Nat, bor (hi2 a b (1 - car p)) = q := ⟨_, rfl⟩
    rw [hq] at e3
    generalize decide (0 ≤ shi a b (car p)) = y at *
    have E2 := hide e2
    have E3 := hide e3
    have E4 := hide e4
    have E5 := hide e5
    have Hq := hide hq
    clear hD ht e e2 e3 e4 e5 hq
    go_enter Tryz.func72, Tryz.ntmps72
    (go_wp2_with fail; refine Cl.p (flIs_calls p 8 _ hp (by omega)) ?_)
    rw [HD.out]
    (go_wp2_with fail; refine Cl.p (adCarry_calls p _ hp) ?_)
    go_wp2_with fail
    rw [E5.out]
    refine Cl.p (adBothLess_calls a b (1 - car p) _ ha hb hc1) ?_
    rw [E2.out, Hq.out]
    go_wp2_with fail
    rw [E3.out]
    refine Cl.p (adOf_calls p (dsubR a b p) y _ hp hr) ?_
    rw [E4.out]
    go_wp2_with fail
    go_ret3
    exact ⟨rfl, rfl⟩

end Go.Proofs.YtplobngbjpgcgaaGreatDoor
end
section
/-
  adder.Digits, gannetref21.Digits.
-/
namespace Go.Proofs.YtplobngbjpgcgaaGreatDoor
set_option linter.unusedSimpArgs false
set_option linter.unusedVariables false
set_option maxRecDepth 10000
open Go.RowKit Pl

theorem infoU8d : (Tryz.prog.info? 5).map (fun i => (i.zero, i.size, i.bytes)) = some (some (.int .u8 0), 1, 1) := by kernel_rfl

end Go.Proofs.YtplobngbjpgcgaaGreatDoor
end
