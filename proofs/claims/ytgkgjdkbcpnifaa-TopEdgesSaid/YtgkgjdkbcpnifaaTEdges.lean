/-
  gannettop: TopEdges.
-/
import Derived.Test.YtgkgjdkbcpnifaaHard2
import Derived.Test.YtgkgjdkbcpnifaaEdg0
import Derived.Test.YtgkgjdkbcpnifaaObit
namespace Go.Proofs.Ytgkgjdkbcpnifaa
set_option linter.unusedSimpArgs false
set_option linter.unusedVariables false
set_option maxRecDepth 10000
open Go.RowKit Pl

theorem run_eql_fault (a b : Int) (w : World) : (binOp .eql 27 (.agg #[.int .i64 a, .int .i64 b]) (.agg #[.int .i64 a, .int .i64 b])).run Try.prog w = .ok (.bool true) w := by
  have hu : Try.prog.underlying 27 = some (.struct (Try.prog.fieldsOf 27)) := by kernel_rfl
  have hp : Try.prog.stoodInHeld 27 = false := by kernel_rfl
  have h1 : ∀ w, (isAgg 25).run Try.prog w = .ok false w := fun w => by simp [isAgg, run_underlying Try.underlying25]
  have h2 : ∀ w, (isAgg 3).run Try.prog w = .ok false w := fun w => by simp [isAgg, run_underlying Try.underlying3]
  rw [run_eql_struct, run_equalIn_agg w 9999 27 _ _ hu hp]
  simp only [Program.fieldsOf, Try.underlying27]
  simp [Op.eqFields, part, h1, h2, run_equalIn_int _ _ 25 _ _ _ _ Try.underlying25, run_equalIn_int _ _ 3 _ _ _ _ Try.underlying3]
theorem run_eql_fltA (V : Nat × Nat) (w : World) : (binOp .eql 27 (.agg (fltA V)) (.agg (fltA V))).run Try.prog w = .ok (.bool true) w := run_eql_fault _ _ w
/-- How lines stand behind the edges up to a stamp. -/
def rsS (Ln : Nat → Nat) (Up : Nat → Bool) (s i : Nat) : Bool := rsA Ln Up (min i s)
def upS (Ln : Nat → Nat) (Up : Nat → Bool) (s i : Nat) : Bool := upE Ln Up 1 (min i s)
theorem s_past {Ln : Nat → Nat} {Up : Nat → Bool} {s i : Nat} (h : ¬ (Ln i = 1 ∧ i < s)) : rsS Ln Up s (i + 1) = rsS Ln Up s i ∧ upS Ln Up s (i + 1) = upS Ln Up s i := by
  unfold rsS upS
  by_cases hi : i < s
  · have hl : ¬ Ln i = 1 := fun e => h ⟨e, hi⟩
    rw [show min (i + 1) s = i + 1 from by omega, show min i s = i from by omega]
    exact ⟨rsA_no hl, upE_no hl⟩
  · rw [show min (i + 1) s = s from by omega, show min i s = s from by omega]
    exact ⟨rfl, rfl⟩
theorem s_hit {Ln : Nat → Nat} {Up : Nat → Bool} {s i : Nat} (h : Ln i = 1 ∧ i < s) : rsS Ln Up s (i + 1) = (rsS Ln Up s i || (Up i && !upS Ln Up s i)) ∧ upS Ln Up s (i + 1) = Up i := by
  unfold rsS upS
  rw [show min (i + 1) s = i + 1 from by omega, show min i s = i from by omega]
  exact ⟨rsA_yes h.1, upE_yes h.1⟩
/-- The whole of what is held behind To: at s edges. -/
def Stood (St : Nat → Int) (Ln : Nat → Nat) (n s : Nat) (stamp last : Int) : Prop := s ≤ n ∧ (∀ i, i < n → (0 < stamp ∧ St i ≤ last ↔ i < s)) ∧ (stamp ≤ 0 → s = 0)
set_option maxRecDepth 100000 in
set_option maxHeartbeats 16000000 in
theorem teTo (p t l bu a po vd vc n c : Nat) (o : Option Addr) (St : Nat → Int) (Ln : Nat → Nat) (Up : Nat → Bool) (stamp : Int) (w : World) (h1 : stamp ≤ 9223372036854775807) (hok : EdgOk n St Ln) (hH : HW w p t l bu a po vd vc 0) (hT : TB w t 0 0 false 3072)
    (hL : LB w l o n c 0 Ln Up false) (hE : EdgB w o n St Ln Up l) (hlp : l < p) :
    ∃ s, Stood St Ln n s stamp (max stamp 0) ∧ (0 < stamp → Gone n St s (max stamp 0)) ∧ Calls Try.prog 7 #[.pointer (some ⟨p, 0, none⟩), .int .i64 stamp] w fun e w' => e = .returned (.tuple #[]) ∧ (∃ now, HW w' p t l bu a po vd vc now) ∧
      LB w' l o n c s Ln Up (rsA Ln Up s) ∧ Only (fun j => j = l ∨ j = p) w w' := by
  by_cases h0 : 0 < stamp
  · obtain ⟨hg, hle, hr⟩ := gone_zero (n := n) (St := St) (Ln := Ln) (Up := Up) (t := stamp)
    refine ⟨(toE St Ln Up stamp n 0 false).1, ⟨hle, fun i hi => ?_, fun h => by omega⟩, fun _ => ?_, (hdTo_off p t l bu a po vd vc n c o St Ln Up stamp w h0 h1 hok hH hT hL hE hlp).mono ?_⟩
    · rw [show max stamp 0 = stamp from by omega, and_iff_right h0]
      exact gone_iff hok hg hle i hi
    · rw [show max stamp 0 = stamp from by omega]
      exact hg
    · rintro e w' ⟨he, q1, q2, q3⟩
      rw [hr] at q2
      exact ⟨he, ⟨stamp, q1⟩, q2, q3⟩
  · refine ⟨0, ⟨Nat.zero_le _, fun i hi => ⟨fun h => absurd h.1 h0, fun h => by omega⟩, fun _ => rfl⟩, fun h => absurd h h0, (hdTo_stay p t l bu a po vd vc stamp w (by omega) hH).mono ?_⟩
    rintro e w' ⟨he, rfl⟩
    exact ⟨he, ⟨0, hH⟩, hL, Only.refl _ _⟩
set_option maxRecDepth 100000 in
set_option maxHeartbeats 16000000 in
theorem topEdges_calls (o : Option Addr) (n c : Nat) (St : Nat → Int) (Ln : Nat → Nat) (Up : Nat → Bool) (stamp : Int) (w : World) (hn0 : n ≤ maxLen) (hs1 : -9223372036854775808 ≤ stamp) (hs2 : stamp ≤ 9223372036854775807) (hE : EdgB w o n St Ln Up w.heap.size) :
    Calls Try.prog 3 #[.slice o n c, .int .i64 stamp] w fun e w' => e = .returned (.bool true) ∧ Below w.heap.size w w' := by
  have htb : tb 1 0 = true := by decide
  have hbit := fun W => octBit_calls 1 0 W (by omega)
  rw [htb] at hbit
  clear htb
  have hb0 : Below w.heap.size w w := Below.refl _ _
  by_cases h0 : (chkV St Ln n).1 = 0
  · have hnl := chkV_nil (St := St) (Ln := Ln) (n := n) h0
    have hok := chkV_ok hnl.1
    have hnew := hdNew_ok o n c St Ln Up w hE h0 hnl.2
    have hn1 : n ≤ 1000 := hnl.2
    clear h0 hnl
    go_enter Try.func3, Try.ntmps3
    go_wp2_with fail
    refine Cl.p (hbit _) ?_
    clear hbit
    go_wp2_with fail
    refine hnew.mono ?_
    clear hnew
    rintro e w1 ⟨p, t, l, bu, a, po, gf, vd, vc, o', c', o1, c1, o2, c2, o3, c3, rfl, hH, hT, hL, hE1, hA, hI, hP, hF, hG, hQ, ⟨hl0, l1, l2, l3, l4, l5, l6, l7, l8⟩, hb1⟩
    have hlp : l < p := by omega
    have hEo := hE.low hb1
    have hz : Blk (w1.alloc (.cells #[.int .i64 0, .int .i64 0] 27)) w1.heap.size 27 #[.int .i64 0, .int .i64 0] := Blk.new _ _ _
    have hba : Below w1.heap.size w1 (w1.alloc (.cells #[.int .i64 0, .int .i64 0] 27)) := Bl.alloc (Below.refl _ _) _
    have f0 : (w1.alloc (.cells #[.int .i64 0, .int .i64 0] 27)).cell? ⟨w1.heap.size, 0, none⟩ = some (.int .i64 0) := hz.cell 0
    have hH2 : HW (w1.alloc (.cells #[.int .i64 0, .int .i64 0] 27)) p t l bu a po vd vc 0 := Blk.alloc hH _
    have hT2 : TB (w1.alloc (.cells #[.int .i64 0, .int .i64 0] 27)) t 0 0 false 3072 := Blk.alloc hT _
    have hL2 : LB (w1.alloc (.cells #[.int .i64 0, .int .i64 0] 27)) l o' n c' 0 Ln Up false := Blk.alloc hL _
    have hI2 : IB (w1.alloc (.cells #[.int .i64 0, .int .i64 0] 27)) a 0 false := Blk.alloc hI _
    have hE2 := hE1.low hba
    have hEo2 := hEo.low hba
    have hb2 := hb1.trans (hba.mono hb1.size)
    clear hH hT hL hE1 hA hI hP hF hG hQ hb1 hE hEo hba
    go_wp2_with (refine wpList_store_row rfl 27 _ _ rfl w1.heap.size (fltA (0, 0)) rfl rfl 27 _ hz (by kernel_rfl) rfl (by kernel_rfl) ?_; rw [show fltA (0, 0) = #[.int .i64 0, .int .i64 0] from rfl, setRow_same hz])
    generalize w1.alloc (.cells #[.int .i64 0, .int .i64 0] 27) = w2 at *
    clear f0 hz
    obtain ⟨s, hst, hgo, hto⟩ := teTo p t l bu a po vd vc n c' o' St Ln Up stamp w2 hs2 hok hH2 hT2 hL2 hE2 hlp
    refine hto.mono ?_
    rintro e w3 ⟨rfl, ⟨now, hH3⟩, hL3, ho3⟩
    have hI3 : IB w3 a 0 false := Blk.only hI2 ho3 (by omega)
    have hE3 : EdgB w3 o n St Ln Up w.heap.size := hEo2.only ho3 (fun j hj e => by omega)
    have hb3 := hb2.trans (ho3.below hb2.size (fun k e => by omega))
    by_cases h0 : 0 < stamp
    · have hm : max stamp 0 = stamp := by omega
      rw [hm] at hst hgo
      have i0 : (0 : Int) < stamp := h0
      have i00 : stamp ≥ 0 := by omega
      clear hH2 hT2 hL2 hI2 hE2 hEo2 hb2 hto ho3
      go_wp2_with fail
      go_loop [9, 10, 11] (fun r u i => ∃ k : Nat, k ≤ n ∧ i = .int .i64 (k : Int) ∧ r = .bool (rsS Ln Up s k) ∧ u = .bool (upS Ln Up s k)) (fun _ _ i => n - (intOf i).toNat)
      case atStart => exact ⟨0, Nat.zero_le _, rfl, by unfold rsS; rw [Nat.zero_min]; rfl, by unfold upS; rw [Nat.zero_min]; rfl⟩
      case round =>
        obtain ⟨k, hk, rfl, rfl, rfl⟩ := hrel
        by_cases hkn : k < n
        · have hkn' : (k : Int) < (n : Int) := by omega
          obtain ⟨b, off, rfl, hlt, y0, y1, y2⟩ := hE3 k hkn
          have hiff := hst.2.1 k hkn
          have hk1000 : k ≤ 1000 := by omega
          by_cases hl1 : Ln k = 1
          · have e1 : ((Ln k : Int) == 1) = true := by rw [beq_iff_eq]; omega
            by_cases hle : St k ≤ stamp
            · obtain ⟨q1, q2⟩ := s_hit (Up := Up) (s := s) ⟨hl1, hiff.1 ⟨h0, hle⟩⟩
              obtain ⟨R, hR⟩ : ∃ x, rsS Ln Up s k = x := ⟨_, rfl⟩
              obtain ⟨U, hU⟩ : ∃ x, upS Ln Up s k = x := ⟨_, rfl⟩
              obtain ⟨V, hV⟩ : ∃ x, Up k = x := ⟨_, rfl⟩
              rw [hR, hU, hV] at q1
              rw [hV] at q2 y2
              rw [hR, hU]
              have Q1 := hide q1
              have Q2 := hide q2
              clear hst hgo hH3 hL3 hI3 hE3 hiff hl1 q1 q2 hR hU hV h0
              cases R <;> cases U <;> cases V
              all_goals
                go_wp2_with fail
                go_round
                case rel => exact ⟨k + 1, by omega, by go_num, by rw [Q1.out]; rfl, by rw [Q2.out]⟩
                case measure => simp [intOf]; omega
            · have i3 : (decide (St k ≤ stamp)) = false := decide_eq_false hle
              obtain ⟨q1, q2⟩ := s_past (Ln := Ln) (Up := Up) (s := s) (i := k) (fun h => by have := hiff.2 h.2; omega)
              have Q1 := hide q1
              have Q2 := hide q2
              clear hst hgo hH3 hL3 hI3 hE3 hiff hl1 q1 q2 h0 hle
              go_wp2_with fail
              go_round
              case rel => exact ⟨k + 1, by omega, by go_num, by rw [Q1.out], by rw [Q2.out]⟩
              case measure => simp [intOf]; omega
          · have e1 : ((Ln k : Int) == 1) = false := by rw [beq_eq_false_iff_ne]; omega
            obtain ⟨q1, q2⟩ := s_past (Ln := Ln) (Up := Up) (s := s) (i := k) (fun h => hl1 h.1)
            have Q1 := hide q1
            have Q2 := hide q2
            clear hst hgo hH3 hL3 hI3 hE3 hiff hl1 q1 q2 h0
            go_wp2_with fail
            go_round
            case rel => exact ⟨k + 1, by omega, by go_num, by rw [Q1.out], by rw [Q2.out]⟩
            case measure => simp [intOf]; omega
        · obtain rfl : k = n := by omega
          have hsk : rsS Ln Up s k = rsA Ln Up s := by unfold rsS; rw [show min k s = s from by have := hst.1; omega]
          have hch := fun W (h1 : HW W p t l bu a po vd vc now) (h2 : IB W a 0 false) (h3 : LB W l o' k c' s Ln Up (rsA Ln Up s)) => hdChoose_calls p t l bu a po vd vc k c' s 0 o' Ln Up (rsA Ln Up s) false false now W (by omega) h1 h2 h3
          have hat : ∀ (W : World) (y : Nat), EdgB W o k St Ln Up W.heap.size → Calls Try.prog 8 #[.slice o k c, .int .u8 (y : Int), .int .i64 stamp] W fun e w' => e = .returned (.bool (upE Ln Up y s)) ∧ Below W.heap.size W w' := fun W y h => by
            have := lnAt_calls o k c St Ln Up y stamp W hn0 h
            rw [Gone.at (hgo h0) hst.1] at this
            exact this
          have hat0 := fun W h => hat W 0 h
          have hat2 := fun W h => hat W 2 h
          have hat3 := fun W h => hat W 3 h
          have hrd := hdRead_no p
          rw [ch_edges] at hch
          rw [hsk]
          have hE4 := hE3.mono hb3.size
          clear hst hgo hat hsk hkn hk hE3
          generalize upE Ln Up 0 s = r0 at *
          generalize upE Ln Up 2 s = r2 at *
          generalize upE Ln Up 3 s = r3 at *
          generalize rsA Ln Up s = rm at *
          cases r0
          rotate_left
          · have hch : ∀ W (h1 : HW W p t l bu a po vd vc now) (h2 : IB W a 0 false) (h3 : LB W l o' k c' s Ln Up rm), Calls Try.prog 9 #[.pointer (some ⟨p, 0, none⟩), .bool false] W fun e w' => e = .returned (.int .u8 1) ∧ Below W.heap.size W w' := hch
            go_wp2_with fail
            refine Cl.m (hat0 _ hE4) ?_
            intro w4 hq0
            have hE5 := (hE4.low hq0).mono hq0.size
            have hb4 := hb3.trans (hq0.mono hb3.size)
            have hH4 : HW w4 p t l bu a po vd vc now := Blk.below hH3 hq0 (Blk.lt hH3)
            have hI4 : IB w4 a 0 false := Blk.below hI3 hq0 (Blk.lt hI3)
            have hL4 : LB w4 l o' k c' s Ln Up rm := Blk.below hL3 hq0 (Blk.lt hL3)
            clear hE4 hb3 hH3 hI3 hL3 hq0
            go_wp2_with fail
            refine Cl.m (hch _ hH4 hI4 hL4) ?_
            intro wa ha
            have hba := hb4.trans (ha.mono hb4.size)
            clear ha
            go_wp2_with fail
            refine Cl.m (hrd _) ?_
            intro wb hb
            go_wp2_with fail
            go_ret
            exact ⟨rfl, hba.trans (hb.mono hba.size)⟩
          cases rm
          rotate_left
          · have hch : ∀ W (h1 : HW W p t l bu a po vd vc now) (h2 : IB W a 0 false) (h3 : LB W l o' k c' s Ln Up true), Calls Try.prog 9 #[.pointer (some ⟨p, 0, none⟩), .bool false] W fun e w' => e = .returned (.int .u8 2) ∧ Below W.heap.size W w' := hch
            go_wp2_with fail
            refine Cl.m (hat0 _ hE4) ?_
            intro w4 hq0
            have hE5 := (hE4.low hq0).mono hq0.size
            have hb4 := hb3.trans (hq0.mono hb3.size)
            have hH4 : HW w4 p t l bu a po vd vc now := Blk.below hH3 hq0 (Blk.lt hH3)
            have hI4 : IB w4 a 0 false := Blk.below hI3 hq0 (Blk.lt hI3)
            have hL4 : LB w4 l o' k c' s Ln Up true := Blk.below hL3 hq0 (Blk.lt hL3)
            clear hE4 hb3 hH3 hI3 hL3 hq0
            go_wp2_with fail
            refine Cl.m (hch _ hH4 hI4 hL4) ?_
            intro wa ha
            have hba := hb4.trans (ha.mono hb4.size)
            clear ha
            go_wp2_with fail
            refine Cl.m (hrd _) ?_
            intro wb hb
            go_wp2_with fail
            go_ret
            exact ⟨rfl, hba.trans (hb.mono hba.size)⟩
          cases r2
          rotate_left
          · have hch : ∀ W (h1 : HW W p t l bu a po vd vc now) (h2 : IB W a 0 false) (h3 : LB W l o' k c' s Ln Up false), Calls Try.prog 9 #[.pointer (some ⟨p, 0, none⟩), .bool false] W fun e w' => e = .returned (.int .u8 4) ∧ Below W.heap.size W w' := hch
            go_wp2_with fail
            refine Cl.m (hat0 _ hE4) ?_
            intro w4 hq0
            have hE5 := (hE4.low hq0).mono hq0.size
            have hb4 := hb3.trans (hq0.mono hb3.size)
            have hH4 : HW w4 p t l bu a po vd vc now := Blk.below hH3 hq0 (Blk.lt hH3)
            have hI4 : IB w4 a 0 false := Blk.below hI3 hq0 (Blk.lt hI3)
            have hL4 : LB w4 l o' k c' s Ln Up false := Blk.below hL3 hq0 (Blk.lt hL3)
            clear hE4 hb3 hH3 hI3 hL3 hq0
            go_wp2_with fail
            refine Cl.m (hat2 _ hE5) ?_
            intro w5 hq1
            have hE6 := (hE5.low hq1).mono hq1.size
            have hb5 := hb4.trans (hq1.mono hb4.size)
            have hH5 : HW w5 p t l bu a po vd vc now := Blk.below hH4 hq1 (Blk.lt hH4)
            have hI5 : IB w5 a 0 false := Blk.below hI4 hq1 (Blk.lt hI4)
            have hL5 : LB w5 l o' k c' s Ln Up false := Blk.below hL4 hq1 (Blk.lt hL4)
            clear hE5 hb4 hH4 hI4 hL4 hq1
            go_wp2_with fail
            refine Cl.m (hch _ hH5 hI5 hL5) ?_
            intro wa ha
            have hba := hb5.trans (ha.mono hb5.size)
            clear ha
            go_wp2_with fail
            refine Cl.m (hrd _) ?_
            intro wb hb
            go_wp2_with fail
            go_ret
            exact ⟨rfl, hba.trans (hb.mono hba.size)⟩
          cases r3
          rotate_left
          · have hch : ∀ W (h1 : HW W p t l bu a po vd vc now) (h2 : IB W a 0 false) (h3 : LB W l o' k c' s Ln Up false), Calls Try.prog 9 #[.pointer (some ⟨p, 0, none⟩), .bool false] W fun e w' => e = .returned (.int .u8 5) ∧ Below W.heap.size W w' := hch
            go_wp2_with fail
            refine Cl.m (hat0 _ hE4) ?_
            intro w4 hq0
            have hE5 := (hE4.low hq0).mono hq0.size
            have hb4 := hb3.trans (hq0.mono hb3.size)
            have hH4 : HW w4 p t l bu a po vd vc now := Blk.below hH3 hq0 (Blk.lt hH3)
            have hI4 : IB w4 a 0 false := Blk.below hI3 hq0 (Blk.lt hI3)
            have hL4 : LB w4 l o' k c' s Ln Up false := Blk.below hL3 hq0 (Blk.lt hL3)
            clear hE4 hb3 hH3 hI3 hL3 hq0
            go_wp2_with fail
            refine Cl.m (hat2 _ hE5) ?_
            intro w5 hq1
            have hE6 := (hE5.low hq1).mono hq1.size
            have hb5 := hb4.trans (hq1.mono hb4.size)
            have hH5 : HW w5 p t l bu a po vd vc now := Blk.below hH4 hq1 (Blk.lt hH4)
            have hI5 : IB w5 a 0 false := Blk.below hI4 hq1 (Blk.lt hI4)
            have hL5 : LB w5 l o' k c' s Ln Up false := Blk.below hL4 hq1 (Blk.lt hL4)
            clear hE5 hb4 hH4 hI4 hL4 hq1
            go_wp2_with fail
            refine Cl.m (hat3 _ hE6) ?_
            intro w6 hq2
            have hE7 := (hE6.low hq2).mono hq2.size
            have hb6 := hb5.trans (hq2.mono hb5.size)
            have hH6 : HW w6 p t l bu a po vd vc now := Blk.below hH5 hq2 (Blk.lt hH5)
            have hI6 : IB w6 a 0 false := Blk.below hI5 hq2 (Blk.lt hI5)
            have hL6 : LB w6 l o' k c' s Ln Up false := Blk.below hL5 hq2 (Blk.lt hL5)
            clear hE6 hb5 hH5 hI5 hL5 hq2
            go_wp2_with fail
            refine Cl.m (hch _ hH6 hI6 hL6) ?_
            intro wa ha
            have hba := hb6.trans (ha.mono hb6.size)
            clear ha
            go_wp2_with fail
            refine Cl.m (hrd _) ?_
            intro wb hb
            go_wp2_with fail
            go_ret
            exact ⟨rfl, hba.trans (hb.mono hba.size)⟩
          · have hch : ∀ W (h1 : HW W p t l bu a po vd vc now) (h2 : IB W a 0 false) (h3 : LB W l o' k c' s Ln Up false), Calls Try.prog 9 #[.pointer (some ⟨p, 0, none⟩), .bool false] W fun e w' => e = .returned (.int .u8 0) ∧ Below W.heap.size W w' := hch
            go_wp2_with fail
            refine Cl.m (hat0 _ hE4) ?_
            intro w4 hq0
            have hE5 := (hE4.low hq0).mono hq0.size
            have hb4 := hb3.trans (hq0.mono hb3.size)
            have hH4 : HW w4 p t l bu a po vd vc now := Blk.below hH3 hq0 (Blk.lt hH3)
            have hI4 : IB w4 a 0 false := Blk.below hI3 hq0 (Blk.lt hI3)
            have hL4 : LB w4 l o' k c' s Ln Up false := Blk.below hL3 hq0 (Blk.lt hL3)
            clear hE4 hb3 hH3 hI3 hL3 hq0
            go_wp2_with fail
            refine Cl.m (hat2 _ hE5) ?_
            intro w5 hq1
            have hE6 := (hE5.low hq1).mono hq1.size
            have hb5 := hb4.trans (hq1.mono hb4.size)
            have hH5 : HW w5 p t l bu a po vd vc now := Blk.below hH4 hq1 (Blk.lt hH4)
            have hI5 : IB w5 a 0 false := Blk.below hI4 hq1 (Blk.lt hI4)
            have hL5 : LB w5 l o' k c' s Ln Up false := Blk.below hL4 hq1 (Blk.lt hL4)
            clear hE5 hb4 hH4 hI4 hL4 hq1
            go_wp2_with fail
            refine Cl.m (hat3 _ hE6) ?_
            intro w6 hq2
            have hE7 := (hE6.low hq2).mono hq2.size
            have hb6 := hb5.trans (hq2.mono hb5.size)
            have hH6 : HW w6 p t l bu a po vd vc now := Blk.below hH5 hq2 (Blk.lt hH5)
            have hI6 : IB w6 a 0 false := Blk.below hI5 hq2 (Blk.lt hI5)
            have hL6 : LB w6 l o' k c' s Ln Up false := Blk.below hL5 hq2 (Blk.lt hL5)
            clear hE6 hb5 hH5 hI5 hL5 hq2
            go_wp2_with fail
            refine Cl.m (hch _ hH6 hI6 hL6) ?_
            intro wa ha
            have hba := hb6.trans (ha.mono hb6.size)
            clear ha
            go_wp2_with fail
            refine Cl.m (hrd _) ?_
            intro wb hb
            go_wp2_with fail
            go_ret
            exact ⟨rfl, hba.trans (hb.mono hba.size)⟩
    · rcases (show stamp < 0 ∨ stamp = 0 by omega) with hneg | hneg
      rotate_left
      all_goals (try subst hneg)
      · have hm : max (0 : Int) 0 = 0 := by omega
        rw [hm] at hst hgo
        have i0 : (decide (0 < (0 : Int))) = false := decide_eq_false h0
        have i00 : (0 : Int) ≤ 0 := by omega
        clear hH2 hT2 hL2 hI2 hE2 hEo2 hb2 hto ho3
        go_wp2_with fail
        go_loop [9, 10, 11] (fun r u i => ∃ k : Nat, k ≤ n ∧ i = .int .i64 (k : Int) ∧ r = .bool (rsS Ln Up s k) ∧ u = .bool (upS Ln Up s k)) (fun _ _ i => n - (intOf i).toNat)
        case atStart => exact ⟨0, Nat.zero_le _, rfl, by unfold rsS; rw [Nat.zero_min]; rfl, by unfold upS; rw [Nat.zero_min]; rfl⟩
        case round =>
          obtain ⟨k, hk, rfl, rfl, rfl⟩ := hrel
          by_cases hkn : k < n
          · have hkn' : (k : Int) < (n : Int) := by omega
            obtain ⟨b, off, rfl, hlt, y0, y1, y2⟩ := hE3 k hkn
            have hiff := hst.2.1 k hkn
            have hk1000 : k ≤ 1000 := by omega
            by_cases hl1 : Ln k = 1
            · have e1 : ((Ln k : Int) == 1) = true := by rw [beq_iff_eq]; omega
              by_cases hle : St k ≤ 0
              · obtain ⟨q1, q2⟩ := s_past (Ln := Ln) (Up := Up) (s := s) (i := k) (fun h => by have := hiff.2 h.2; omega)
                have Q1 := hide q1
                have Q2 := hide q2
                clear hst hgo hH3 hL3 hI3 hE3 hiff hl1 q1 q2 h0
                go_wp2_with fail
                go_round
                case rel => exact ⟨k + 1, by omega, by go_num, by rw [Q1.out], by rw [Q2.out]⟩
                case measure => simp [intOf]; omega
              · have i3 : (decide (St k ≤ 0)) = false := decide_eq_false hle
                obtain ⟨q1, q2⟩ := s_past (Ln := Ln) (Up := Up) (s := s) (i := k) (fun h => by have := hiff.2 h.2; omega)
                have Q1 := hide q1
                have Q2 := hide q2
                clear hst hgo hH3 hL3 hI3 hE3 hiff hl1 q1 q2 h0 hle
                go_wp2_with fail
                go_round
                case rel => exact ⟨k + 1, by omega, by go_num, by rw [Q1.out], by rw [Q2.out]⟩
                case measure => simp [intOf]; omega
            · have e1 : ((Ln k : Int) == 1) = false := by rw [beq_eq_false_iff_ne]; omega
              obtain ⟨q1, q2⟩ := s_past (Ln := Ln) (Up := Up) (s := s) (i := k) (fun h => hl1 h.1)
              have Q1 := hide q1
              have Q2 := hide q2
              clear hst hgo hH3 hL3 hI3 hE3 hiff hl1 q1 q2 h0
              go_wp2_with fail
              go_round
              case rel => exact ⟨k + 1, by omega, by go_num, by rw [Q1.out], by rw [Q2.out]⟩
              case measure => simp [intOf]; omega
          · obtain rfl : k = n := by omega
            obtain rfl : s = 0 := hst.2.2 (by omega)
            have hch := hdChoose_calls p t l bu a po vd vc k c' 0 0 o' Ln Up (rsA Ln Up 0) false false now w3 (by omega) hH3 hI3 hL3
            rw [ch_edges] at hch
            have hch : Calls Try.prog 9 #[.pointer (some ⟨p, 0, none⟩), .bool false] w3 fun e w' => e = .returned (.int .u8 0) ∧ Below w3.heap.size w3 w' := hch
            have hrd := hdRead_no p
            clear hst hgo hkn hk hE3 h0
            go_wp2_with fail
            refine Cl.m hch ?_
            intro wa ha
            have hba := hb3.trans (ha.mono hb3.size)
            clear ha
            go_wp2_with fail
            refine Cl.m (hrd _) ?_
            intro wb hb
            go_wp2_with fail
            go_ret
            exact ⟨rfl, hba.trans (hb.mono hba.size)⟩
      · have hm : max stamp 0 = 0 := by omega
        rw [hm] at hst hgo
        have i0 : (decide (0 < stamp)) = false := decide_eq_false h0
        have i00 : stamp ≤ 0 := by omega
        clear hH2 hT2 hL2 hI2 hE2 hEo2 hb2 hto ho3
        go_wp2_with fail
        go_loop [9, 10, 11] (fun r u i => ∃ k : Nat, k ≤ n ∧ i = .int .i64 (k : Int) ∧ r = .bool (rsS Ln Up s k) ∧ u = .bool (upS Ln Up s k)) (fun _ _ i => n - (intOf i).toNat)
        case atStart => exact ⟨0, Nat.zero_le _, rfl, by unfold rsS; rw [Nat.zero_min]; rfl, by unfold upS; rw [Nat.zero_min]; rfl⟩
        case round =>
          obtain ⟨k, hk, rfl, rfl, rfl⟩ := hrel
          by_cases hkn : k < n
          · have hkn' : (k : Int) < (n : Int) := by omega
            obtain ⟨b, off, rfl, hlt, y0, y1, y2⟩ := hE3 k hkn
            have hiff := hst.2.1 k hkn
            have hk1000 : k ≤ 1000 := by omega
            by_cases hl1 : Ln k = 1
            · have e1 : ((Ln k : Int) == 1) = true := by rw [beq_iff_eq]; omega
              by_cases hle : St k ≤ 0
              · obtain ⟨q1, q2⟩ := s_past (Ln := Ln) (Up := Up) (s := s) (i := k) (fun h => by have := hiff.2 h.2; omega)
                have Q1 := hide q1
                have Q2 := hide q2
                clear hst hgo hH3 hL3 hI3 hE3 hiff hl1 q1 q2 h0
                go_wp2_with fail
                go_round
                case rel => exact ⟨k + 1, by omega, by go_num, by rw [Q1.out], by rw [Q2.out]⟩
                case measure => simp [intOf]; omega
              · have i3 : (decide (St k ≤ 0)) = false := decide_eq_false hle
                obtain ⟨q1, q2⟩ := s_past (Ln := Ln) (Up := Up) (s := s) (i := k) (fun h => by have := hiff.2 h.2; omega)
                have Q1 := hide q1
                have Q2 := hide q2
                clear hst hgo hH3 hL3 hI3 hE3 hiff hl1 q1 q2 h0 hle
                go_wp2_with fail
                go_round
                case rel => exact ⟨k + 1, by omega, by go_num, by rw [Q1.out], by rw [Q2.out]⟩
                case measure => simp [intOf]; omega
            · have e1 : ((Ln k : Int) == 1) = false := by rw [beq_eq_false_iff_ne]; omega
              obtain ⟨q1, q2⟩ := s_past (Ln := Ln) (Up := Up) (s := s) (i := k) (fun h => hl1 h.1)
              have Q1 := hide q1
              have Q2 := hide q2
              clear hst hgo hH3 hL3 hI3 hE3 hiff hl1 q1 q2 h0
              go_wp2_with fail
              go_round
              case rel => exact ⟨k + 1, by omega, by go_num, by rw [Q1.out], by rw [Q2.out]⟩
              case measure => simp [intOf]; omega
          · obtain rfl : k = n := by omega
            obtain rfl : s = 0 := hst.2.2 (by omega)
            have hch := hdChoose_calls p t l bu a po vd vc k c' 0 0 o' Ln Up (rsA Ln Up 0) false false now w3 (by omega) hH3 hI3 hL3
            rw [ch_edges] at hch
            have hch : Calls Try.prog 9 #[.pointer (some ⟨p, 0, none⟩), .bool false] w3 fun e w' => e = .returned (.int .u8 0) ∧ Below w3.heap.size w3 w' := hch
            have hrd := hdRead_no p
            clear hst hgo hkn hk hE3 h0
            go_wp2_with fail
            refine Cl.m hch ?_
            intro wa ha
            have hba := hb3.trans (ha.mono hb3.size)
            clear ha
            go_wp2_with fail
            refine Cl.m (hrd _) ?_
            intro wb hb
            go_wp2_with fail
            go_ret
            exact ⟨rfl, hba.trans (hb.mono hba.size)⟩
  · have hnew := hdNew_bad o n c St Ln Up w hE h0
    obtain ⟨V, hV⟩ : ∃ V, chkV St Ln n = V := ⟨_, rfl⟩
    rw [hV] at hnew h0
    have hchk := fun W (h : EdgB W o n St Ln Up W.heap.size) => lnCheck_calls o n c St Ln Up W h
    rw [hV] at hchk
    clear hV
    have hne : ((V.1 : Int) != 0) = true := by rw [bne_iff_ne]; omega
    have hq := run_eql_fltA V
    go_enter Try.func3, Try.ntmps3
    go_wp2_with fail
    refine Cl.p (hbit _) ?_
    clear hbit
    go_wp2_with fail
    refine Cl.m hnew ?_
    clear hnew
    intro w1 hb1
    have hE1 := hE.low hb1
    have hz : Blk (w1.alloc (.cells #[.int .i64 0, .int .i64 0] 27)) w1.heap.size 27 #[.int .i64 0, .int .i64 0] := Blk.new _ _ _
    have hG : Blk (w1.alloc (.cells (fltA V) 27)) w1.heap.size 27 (fltA V) := Blk.new _ _ _
    have hba : Below w1.heap.size w1 (w1.alloc (.cells (fltA V) 27)) := Bl.alloc (Below.refl _ _) _
    have f0 : (w1.alloc (.cells (fltA V) 27)).cell? ⟨w1.heap.size, 0, none⟩ = some (.int .i64 (V.1 : Int)) := hG.cell 0
    have hE2 := hE1.low hba
    have hb2 := hb1.trans (hba.mono hb1.size)
    clear hE hE1 hb1 hba hb0
    go_wp2_with (refine wpList_store_row rfl 27 _ _ rfl w1.heap.size (fltA V) rfl rfl 27 _ hz (by kernel_rfl) rfl (by kernel_rfl) ?_; rw [setRow_new])
    generalize w1.alloc (.cells (fltA V) 27) = w2 at *
    generalize w1.heap.size = gf at *
    clear hz f0
    refine wp_region_held_drew (S := fun W => Blk W gf 27 (fltA V) ∧ EdgB W o n St Ln Up w.heap.size ∧ Below w.heap.size w W) (by kernel_rfl) ⟨(by first | exact hG.drew | exact hG | exact Below.drew hG), (by first | exact hE2.drew | exact hE2 | exact Below.drew hE2), (by first | exact hb2.drew | exact hb2 | exact Below.drew hb2)⟩ (fun hS0 => ?_)
    clear hG hE2 hb2
    change wpAnyH _ _ _ _ _ 9 #[false, false, false, false, false, false, false, false, false] _ _
    generalize w2.drew = v0 at *
    refine wpAnyH_take (i := 0) (v := ?_) rfl (by kernel_rfl) (by kernel_rfl) (by kernel_rfl) (fun _ _ _ h => h) (Or.inl ⟨by rfl, ?_⟩) hS0 ?_
    rotate_left
    · (intro w hSw; (try dsimp only at hSw); go_simp; try with_reducible rfl)
    simp only [List.getElem_toArray, List.getElem_cons_zero, List.getElem_cons_succ, Act.put, List.setIfInBounds_toArray, List.set_cons_zero, List.set_cons_succ]
    refine wpAnyH_take (i := 1) (v := ?_) rfl (by kernel_rfl) (by kernel_rfl) (by kernel_rfl) (fun _ _ _ h => h) (Or.inl ⟨by rfl, ?_⟩) hS0 ?_
    rotate_left
    · (intro w hSw; (try dsimp only at hSw); go_simp; try with_reducible rfl)
    simp only [List.getElem_toArray, List.getElem_cons_zero, List.getElem_cons_succ, Act.put, List.setIfInBounds_toArray, List.set_cons_zero, List.set_cons_succ]
    refine wpAnyH_take (i := 2) (v := ?_) rfl (by kernel_rfl) (by kernel_rfl) (by kernel_rfl) (fun _ _ _ h => h) (Or.inl ⟨by rfl, ?_⟩) hS0 ?_
    rotate_left
    · (intro w hSw; (try dsimp only at hSw); go_simp; try with_reducible rfl)
    simp only [List.getElem_toArray, List.getElem_cons_zero, List.getElem_cons_succ, Act.put, List.setIfInBounds_toArray, List.set_cons_zero, List.set_cons_succ]
    refine wpAnyH_take (i := 3) (v := ?_) rfl (by kernel_rfl) (by kernel_rfl) (by kernel_rfl) (fun _ _ _ h => h) (Or.inl ⟨by rfl, ?_⟩) hS0 ?_
    rotate_left
    · (intro w hSw; (try dsimp only at hSw); go_simp; try with_reducible rfl)
    simp only [List.getElem_toArray, List.getElem_cons_zero, List.getElem_cons_succ, Act.put, List.setIfInBounds_toArray, List.set_cons_zero, List.set_cons_succ]
    refine wpAnyH_take (i := 5) (v := .agg (fltA V)) rfl (by kernel_rfl) (by kernel_rfl) (by kernel_rfl) (fun _ _ _ h => h) (YieldsIf.row_w (by rfl) 27 _ rfl gf rfl _ _ _ (fun _ h => h.1) Try.underlying27 rfl (by kernel_rfl)) hS0 ?_
    simp only [List.getElem_toArray, List.getElem_cons_zero, List.getElem_cons_succ, Act.put, List.setIfInBounds_toArray, List.set_cons_zero, List.set_cons_succ]
    refine wpAnyH_ready (rs := [4]) (by kernel_rfl) (by simp) ?_
    refine AllReadyH.cons rfl (fun K hK => ?_) AllReadyH.nil
    go_simp
    refine (hchk _ (EdgB.mono hS0.2.1 (Below.size hS0.2.2))).mono ?_
    rintro e v1 ⟨rfl, hb1⟩
    (try go_simp)
    refine hK.out _ _ ⟨(by first | exact hS0.1.below hb1 hS0.1.lt | exact hS0.1.trans (hb1.mono hS0.1.size) | exact (hb1.cell (cell_lt hS0.1)).trans hS0.1 | exact hS0.1.below hb1 (Nat.le_refl _) | exact hS0.1.low hb1 | exact hS0.1.below hb1), (by first | exact hS0.2.1.below hb1 hS0.2.1.lt | exact hS0.2.1.trans (hb1.mono hS0.2.1.size) | exact (hb1.cell (cell_lt hS0.2.1)).trans hS0.2.1 | exact hS0.2.1.below hb1 (Nat.le_refl _) | exact hS0.2.1.low hb1 | exact hS0.2.1.below hb1), (by first | exact hS0.2.2.below hb1 hS0.2.2.lt | exact hS0.2.2.trans (hb1.mono hS0.2.2.size) | exact (hb1.cell (cell_lt hS0.2.2)).trans hS0.2.2 | exact hS0.2.2.below hb1 (Nat.le_refl _) | exact hS0.2.2.low hb1 | exact hS0.2.2.below hb1)⟩ (fun hS1 => ?_)
    clear hK K
    clear hb1 hS0
    simp only [List.getElem_toArray, List.getElem_cons_zero, List.getElem_cons_succ, Act.put, List.setIfInBounds_toArray, List.set_cons_zero, List.set_cons_succ]
    refine wpAnyH_take (i := 6) (v := ?_) rfl (by kernel_rfl) (by kernel_rfl) (by kernel_rfl) (fun _ _ _ h => h) (Or.inl ⟨by rfl, ?_⟩) hS1 ?_
    rotate_left
    · (intro w hSw; (try dsimp only at hSw); go_simp; try with_reducible rfl)
    simp only [List.getElem_toArray, List.getElem_cons_zero, List.getElem_cons_succ, Act.put, List.setIfInBounds_toArray, List.set_cons_zero, List.set_cons_succ]
    refine wpAnyH_take (i := 7) (v := ?_) rfl (by kernel_rfl) (by kernel_rfl) (by kernel_rfl) (fun _ _ _ h => h) (Or.inl ⟨by rfl, ?_⟩) hS1 ?_
    rotate_left
    · (intro w hSw; (try dsimp only at hSw); go_simp; try with_reducible rfl)
    simp only [List.getElem_toArray, List.getElem_cons_zero, List.getElem_cons_succ, Act.put, List.setIfInBounds_toArray, List.set_cons_zero, List.set_cons_succ]
    refine wpAnyH_take (i := 8) (v := ?_) rfl (by kernel_rfl) (by kernel_rfl) (by kernel_rfl) (fun _ _ _ h => h) (Or.inl ⟨by rfl, ?_⟩) hS1 ?_
    rotate_left
    · (intro w hSw; (try dsimp only at hSw); go_simp; try with_reducible rfl)
    simp only [List.getElem_toArray, List.getElem_cons_zero, List.getElem_cons_succ, Act.put, List.setIfInBounds_toArray, List.set_cons_zero, List.set_cons_succ]
    refine wpAnyH_done (by kernel_rfl) ?_ _
    have hG := hS1.1
    have hE2 := hS1.2.1
    have hb2 := hS1.2.2
    clear hS1
    go_wp2_with fail
    go_ret
    exact ⟨rfl, hb2⟩
section
open Go.ChangeShapes Go.WideShapes Go.ChangeAt
variable {H : Type} {enc : TypeId × Value → H} {W : World} {base : Nat}
theorem walk_TopEdges {v0 v1 : Value} {d0 d1 : DataW H} {p0 p1 : List MemPlace}
    (_hsh : W.ShapedOpen Try.prog) (_hsz : (DataW.weightsEach Try.prog [22, 2] [d0, d1]).all (· ≤ reachBytes) = true)
    (hv0 : Value.okWide Try.prog W .any base 22 v0) (hd0 : DataW.Trod enc Try.prog W 0 (fun _ => true) true 22 v0 d0 p0) (hv1 : Value.okWide Try.prog W .any base 2 v1) (hd1 : DataW.Trod enc Try.prog W 0 (fun _ => true) true 2 v1 d1 p1) :
    Calls Try.prog 3 #[v0, v1] W fun e W' => e = .returned (.bool true) ∧ Below W.heap.size W W' := by
  obtain ⟨a0, n0, c0, St, Ln, Up, rfl, hE, hn, _⟩ := open_edges hv0 hd0
  obtain ⟨x1, rfl, h1, h2⟩ := open_i64 Try.underlying2 hv1 hd1
  exact topEdges_calls a0 n0 c0 St Ln Up x1 W hn h1 h2 hE
end
end Go.Proofs.Ytgkgjdkbcpnifaa
