/-
  gannettop: TopMapped.
-/
import Derived.Test.YtemfdkoipeedeaaBus
import Derived.Test.YtemfdkoipeedeaaMmu4
import Derived.Test.YtemfdkoipeedeaaObit
import Derived.Test.YtemfdkoipeedeaaOpenA
namespace Go.Proofs.Ytemfdkoipeedeaa
set_option linter.unusedSimpArgs false
set_option linter.unusedVariables false
set_option maxRecDepth 10000
open Go.RowKit Pl
theorem sL_mem (A : Nat → Nat) (a : Nat) : ∀ (j i : Nat), i < (sL A a j).length → ∃ q, q < j ∧ A q = bnk a ∧ (sL A a j).getD i 0 = ((q * 8192 + a % 8192 : Nat) : Int)
  | 0, i, h => by simp [sL] at h
  | j + 1, i, h => by
    unfold sL at h ⊢
    by_cases he : A j = bnk a
    · rw [if_pos he] at h ⊢
      rw [List.length_append] at h
      by_cases hi : i < (sL A a j).length
      · obtain ⟨q, h1, h2, h3⟩ := sL_mem A a j i hi
        refine ⟨q, by omega, h2, ?_⟩
        rw [← h3]
        simp [List.getD, List.getElem?_append_left hi]
      · refine ⟨j, by omega, he, ?_⟩
        have : i = (sL A a j).length := by simp at h; omega
        subst this
        simp [List.getD]
    · rw [if_neg he, List.append_nil] at h ⊢
      obtain ⟨q, h1, h2, h3⟩ := sL_mem A a j i h
      exact ⟨q, by omega, h2, h3⟩
/-- How often one number stands among the first. -/
def cN (L : List Int) (a : Int) (k : Nat) : Nat := (L.take k).countP (fun x => x == a)
theorem cN_yes {L : List Int} {a : Int} {k : Nat} (h : k < L.length) (e : L.getD k 0 = a) : cN L a (k + 1) = cN L a k + 1 := by
  unfold cN
  have hg : L[k]? = some a := by
    rw [List.getD_eq_getElem?_getD] at e
    rw [List.getElem?_eq_getElem h] at e ⊢
    exact congrArg some e
  rw [List.take_add_one, hg, List.countP_append]
  simp
theorem cN_no {L : List Int} {a : Int} {k : Nat} (h : k < L.length) (e : L.getD k 0 ≠ a) : cN L a (k + 1) = cN L a k := by
  unfold cN
  have hg : L[k]? = some (L.getD k 0) := by
    rw [List.getD_eq_getElem?_getD, List.getElem?_eq_getElem h]; rfl
  rw [List.take_add_one, hg, List.countP_append, show (some (L.getD k 0)).toList = [L.getD k 0] from rfl, List.countP_singleton, if_neg (by rw [beq_iff_eq]; exact e), Nat.add_zero]
theorem cN_le (L : List Int) (a : Int) (k : Nat) : cN L a k ≤ k := by
  unfold cN
  exact Nat.le_trans List.countP_le_length (by simp; omega)
/-- A logical address is seen once. -/
theorem sL_once (Q : Nat → Nat) (a p : Nat) (hp : p % 8192 = a % 8192) (hb : Q (a / 8192) = bnk p) : ∀ j, (sL Q p j).countP (fun x => x == (a : Int)) = if a / 8192 < j then 1 else 0
  | 0 => by simp [sL]
  | j + 1 => by
    unfold sL
    rw [List.countP_append, sL_once Q a p hp hb j]
    by_cases he : j = a / 8192
    · subst he
      rw [if_pos hb, if_neg (by omega), if_pos (by omega)]
      have : ((a / 8192 * 8192 + p % 8192 : Nat) : Int) = (a : Int) := by omega
      rw [this]
      simp
    · have hne : ∀ (b : Bool), ((if Q j = bnk p then [((j * 8192 + p % 8192 : Nat) : Int)] else []) : List Int).countP (fun x => x == (a : Int)) = 0 := fun _ => by
        split
        · have : ((j * 8192 + p % 8192 : Nat) : Int) ≠ (a : Int) := by omega
          rw [List.countP_singleton, if_neg (by rw [beq_iff_eq]; exact this)]
        · rfl
      rw [hne true]
      by_cases hj : a / 8192 < j
      · rw [if_pos hj, if_pos (by omega)]
      · rw [if_neg hj, if_neg (by omega)]
theorem own_base {w : World} {B base n size : Nat} {e : TypeId} {v : Value} {xs : List Value} (h : w.ownsRow B e size v n xs) (hb : base ≤ B) : w.ownsRow base e size v n xs := by
  obtain ⟨hl, h⟩ := h
  rcases h with h | ⟨g, cap, cur, rfl, hb', r⟩
  · exact ⟨hl, Or.inl h⟩
  · exact ⟨hl, Or.inr ⟨g, cap, cur, rfl, Nat.le_trans hb hb', r⟩⟩
set_option maxRecDepth 100000 in
set_option maxHeartbeats 16000000 in
theorem topMapped_calls (Q : Nat → Nat) (a v : Nat) (w : World) (ha : a < 65536) (hv : v < 256) (hQ : ∀ i, i < 8 → Q i < 256) :
    Calls Try.prog 3 #[.agg (bk8 Q), .int .u16 (a : Int), .int .u8 (v : Int)] w fun e w' => e = .returned (.bool true) ∧ Below w.heap.size w w' := by
  have htb : tb 1 0 = true := by decide
  have hbit := fun W => octBit_calls 1 0 W (by omega)
  rw [htb] at hbit
  clear htb
  have hO : ∀ W, Calls Try.prog 5 #[.agg (bk8 Q), .int .u8 0] W fun e w' => ∃ g, e = .returned (.pointer (some ⟨g, 0, none⟩)) ∧ MB w' g Q 0 ∧ W.heap.size ≤ g ∧ Below W.heap.size W w' := fun W => mmOf_calls 0 Q W
  have hX0 : Blk (w.alloc (.cells (bk8 Q) 22)) w.heap.size 22 (bk8 Q) := Blk.new _ _ _
  have hbA : Below w.heap.size w (w.alloc (.cells (bk8 Q) 22)) := Bl.alloc (Below.refl _ _) _
  go_enter Try.func3, Try.ntmps3
  go_wp2_with fail
  refine Cl.p (hbit _) ?_
  clear hbit
  go_wp2_with (refine wpList_load_row rfl 22 _ rfl w.heap.size rfl _ (bk8 Q) (0, 0) _ hX0 Try.underlying22 rfl (by kernel_rfl) ?_)
  refine (hO _).mono ?_
  clear hO hX0
  rintro e w1 ⟨m, rfl, hM1, hm, hb⟩
  have hb1 := hbA.trans (hb.mono hbA.size)
  have hwm : w.heap.size ≤ m := Nat.le_trans hbA.size hm
  have hmw := hM1.lt
  clear hbA hb hm
  go_wp2_with fail
  refine (devNew_calls w1).mono ?_
  rintro e w2 ⟨D, rfl, hD2, hl0, hb2⟩
  have hM2 : MB w2 m Q 0 := Blk.below hM1 hb2 hmw
  have hb02 := hb1.trans (hb2.mono hb1.size)
  have hz : Blk (w2.alloc (.cells #[.int .i64 0, .int .i64 0] 30)) w2.heap.size 30 #[.int .i64 0, .int .i64 0] := Blk.new _ _ _
  have hba : Below w2.heap.size w2 (w2.alloc (.cells #[.int .i64 0, .int .i64 0] 30)) := Bl.alloc (Below.refl _ _) _
  have hD3 := hD2.low hba
  have hM3 : MB (w2.alloc (.cells #[.int .i64 0, .int .i64 0] 30)) m Q 0 := Blk.alloc hM2 _
  have hb03 := hb02.trans (hba.mono hb02.size)
  have hwl : w.heap.size ≤ D.l := Nat.le_trans hb1.size hl0
  have hml : m < D.l := Nat.lt_of_lt_of_le hmw hl0
  clear hD2 hM2 hb02 hba hb2 hM1 hb1
  go_wp2_with (refine wpList_store_row rfl 30 _ _ rfl w2.heap.size (fltA (0, 0)) rfl rfl 30 _ hz (by kernel_rfl) rfl (by kernel_rfl) ?_; rw [show fltA (0, 0) = #[.int .i64 0, .int .i64 0] from rfl, setRow_same hz])
  generalize w2.alloc (.cells #[.int .i64 0, .int .i64 0] 30) = w3 at *
  clear hz
  refine (bsNew_calls D w3 hD3).mono ?_
  rintro e w4 ⟨A, rfl, hB4, hb4⟩
  have hM4 : MB w4 m Q 0 := Blk.below hM3 hb4 hM3.lt
  have hb04 := hb03.trans (hb4.mono hb03.size)
  obtain ⟨base, hbase⟩ : ∃ x, w4.heap.size = x := ⟨_, rfl⟩
  rw [hbase] at hB4
  have hbz : base ≤ w4.heap.size := by omega
  clear hbase hD3 hM3 hb03 hb4
  go_wp2_with fail
  refine Cl.p (bsLeft_calls w4 hB4) ?_
  go_wp2_with fail
  have hph := mmPhys_calls m 0 a Q w4 ha hQ hM4
  have hP1 : adr (Q (a / 8192)) a % 8192 = a % 8192 := off_adr _ _
  have hP2 : bnk (adr (Q (a / 8192)) a) = Q (a / 8192) := bnk_adr _ _ (hQ _ (by omega))
  have hP3 : adr (Q (a / 8192)) a < 2097152 := by
    have := hQ (a / 8192) (by omega)
    unfold adr
    omega
  generalize adr (Q (a / 8192)) a = P at *
  have honce := sL_once Q a P hP1 hP2.symm 8
  rw [if_pos (by omega)] at honce
  refine Cl.m hph ?_
  clear hph
  intro w5 hb5
  have hM5 : MB w5 m Q 0 := Blk.below hM4 hb5 hM4.lt
  have hB5 := hB4.low hb5
  have hb05 := hb04.trans (hb5.mono hb04.size)
  have hbz5 : base ≤ w5.heap.size := Nat.le_trans hbz hb5.size
  have hDw := hB5.o
  have hlp := hB5.lp
  clear hM4 hB4 hb04 hb5 hbz
  go_wp2_with fail
  have hmem := sL_mem Q P 8
  have hl8 := sL_len Q P 8
  have hcN : cN (sL Q P 8) a (sL Q P 8).length = 1 := by unfold cN; rw [List.take_length]; exact honce
  have hSeen := fun W (h : MB W m Q 0) => mmSeen_calls (.pointer (some ⟨m, 0, none⟩)) P Q W (by omega) (fun W' hb => mmBanks_calls m 0 Q W' (Blk.below h hb h.lt))
  have hwhr := fun W => phWhere_calls P W (by omega)
  generalize sL Q P 8 = L at *
  obtain ⟨n, hn⟩ : ∃ x, L.length = x := ⟨_, rfl⟩
  rw [hn] at hl8 hcN
  clear honce
  by_cases hx : whr P = 1
  · rw [hx] at hwhr
    refine (bsWrite_ram D A base 0 0 0 P 0 0 100 0 v 4 (fun _ => 0) (.slice none 0 0) w5 hP3 hx (by omega) (by omega) (by omega) (by omega) (by omega) (by omega) (by omega) (by omega) (by omega) hB5).mono ?_
    rintro e w6 ⟨rfl, ⟨V, hB6⟩, hL6, _⟩
    have hM6 : MB w6 m Q 0 := Blk.below hM5 hL6 hml
    have hb06 := hb05.trans (hL6.mono hwl)
    have hbz6 := hB6.o
    clear hM5 hB5 hb05 hL6
    go_wp2_with fail
    refine (hSeen w6 hM6).mono ?_
    rintro e w7 ⟨vl, rfl, hown, hb7⟩
    obtain ⟨lo, lc, rfl, _⟩ := nums_of_own hown
    rw [hn] at hown ⊢
    have hown7 := own_base hown (base := base) (by omega)
    have hM7 : MB w7 m Q 0 := Blk.below hM6 hb7 hM6.lt
    have hB7 := hB6.low hb7
    have hb07 := hb06.trans (hb7.mono hb06.size)
    clear hown hM6 hB6 hb06 hb7 hSeen
    have hF : updF (fun _ => 0) (P % 8192) (v : Int) (P % 8192) = (v : Int) := if_pos rfl
    generalize updF (fun _ => 0) (P % 8192) (v : Int) = F at *
    go_wp2_with fail
    go_loopw [13, 14] (fun nn i wr => ∃ j : Nat, j ≤ n ∧ i = .int .i64 (j : Int) ∧ nn = .int .i64 (cN L a j : Nat) ∧ (∃ V, BusW wr D A base (12 * ((j : Int) + 1)) ((j : Int) + 1) (99 - (j : Int)) (12 * (j : Int)) 1 (j + 1) 0 F V) ∧ wr.ownsRow base 23 1 (.slice lo n lc) n (L.map (Value.int .u16)) ∧ MB wr m Q 0 ∧ Below w.heap.size w wr) (fun _ i _ => n - (intOf i).toNat)
    case atStart => exact ⟨0, by omega, rfl, rfl, ⟨V, hB7⟩, hown7, hM7, hb07⟩
    case round =>
      obtain ⟨j, hj, rfl, rfl, ⟨Vr, hBr⟩, hor, hMr, hbr⟩ := hrel
      have hcl := cN_le L a j
      by_cases hjn : j < n
      · have hjn' : (j : Int) < (n : Int) := by omega
        obtain ⟨q, hq8, hqQ, hqL⟩ := hmem j (by omega)
        have hlw : D.l ≤ wr.heap.size := by have h1 := hBr.o; omega
        obtain ⟨o2, c2, he, hn2⟩ := nums_of_own hor
        injection he with he1 he2 he3
        subst he1
        subst he3
        obtain ⟨b, off, rfl, hlt, hc⟩ := hn2 j hjn
        dsimp only at hc
        rw [hqL] at hc
        have e1 : (q * 8192 + P % 8192) / 8192 = q := by omega
        have e2 : adr (bnk P) (q * 8192 + P % 8192) = P := by unfold adr bnk; omega
        have hv2 : q * 8192 + P % 8192 < 65536 := by omega
        have hPh := fun W (h : MB W m Q 0) => mmPhys_calls m 0 (q * 8192 + P % 8192) Q W hv2 hQ h
        rw [e1, hqQ, e2] at hPh
        have hst : (q * 8192 + P % 8192 = a → cN L a (j + 1) = cN L a j + 1) ∧ (q * 8192 + P % 8192 ≠ a → cN L a (j + 1) = cN L a j) := ⟨fun h => cN_yes (by omega) (by rw [hqL, h]), fun h => cN_no (by omega) (by rw [hqL]; omega)⟩
        generalize q * 8192 + P % 8192 = vL at *
        have zv : ((v : Int) != (v : Int)) = false := bne_self_eq_false _
        have hst1 := hst.1
        have hst2 := hst.2
        generalize cN L a j = cj at *
        have HL := hide hqL
        clear hst e1 e2 hqL hmem hqQ hn2 hcN he2
        by_cases hva : vL = a
        all_goals
          first | (have iva : ((vL : Int) == (a : Int)) = true := by rw [beq_iff_eq]; omega) | (have iva : ((vL : Int) == (a : Int)) = false := by rw [beq_eq_false_iff_ne]; omega)
          have HV := hide hva
          have H1 := hide hst1
          have H2 := hide hst2
          clear hva hst1 hst2
          go_wp2_with fail
          refine Cl.m (hwhr _) ?_
          intro x1 hy1
          have hB1 := hBr.low hy1
          have hM1 : MB x1 m Q 0 := Blk.below hMr hy1 hMr.lt
          have hO1 := own_low hor hy1
          have hc1 : x1.cell? ⟨b, off + j, none⟩ = some (.int .u16 (vL : Int)) := (hy1.cell (cell_lt hc)).trans hc
          have hb1 := hbr.trans (hy1.mono hbr.size)
          clear hBr hMr hor hc hbr hy1
          go_wp2_with fail
          refine Cl.m (hPh _ hM1) ?_
          intro x2 hy2
          have hB2 := hB1.low hy2
          have hM2 : MB x2 m Q 0 := Blk.below hM1 hy2 hM1.lt
          have hO2 := own_low hO1 hy2
          have hb2 := hb1.trans (hy2.mono hb1.size)
          clear hB1 hM1 hO1 hc1 hb1 hy2
          go_wp2_with fail
          have hrd := bsRead_ram D A base 1 (j + 1) 0 P (12 * ((j : Int) + 1)) ((j : Int) + 1) (99 - (j : Int)) (12 * (j : Int)) 3 F Vr x2 hP3 hx (by omega) (by omega) (by omega) (by omega) (by omega) (by omega) (by omega) (by omega) hB2
          rw [hF] at hrd
          refine hrd.mono ?_
          clear hrd
          rintro e x3 ⟨rfl, ⟨V3, hB3⟩, hL3, hK3⟩
          have hO3 := hK3 _ _ _ hO2
          have hM3 : MB x3 m Q 0 := Blk.below hM2 hL3 hml
          have hb3 := hb2.trans (hL3.mono hwl)
          obtain ⟨o4, c4, he4, hn4⟩ := nums_of_own hO3
          injection he4 with he5 he6 he7
          subst he5
          obtain ⟨b4, off4, he8, hlt4, hc4⟩ := hn4 j hjn
          injection he8 with he8
          injection he8 with he9 he10
          subst he9
          subst he10
          have hc5 : x3.cell? ⟨b, off + j, none⟩ = some (.int .u16 (vL : Int)) := by
            dsimp only at hc4
            rw [HL.out] at hc4
            exact hc4
          clear he6 he7
          rw [show 12 * ((j : Int) + 1) + 12 = 12 * (((j + 1 : Nat) : Int) + 1) by omega, show (j : Int) + 1 + 1 = ((j + 1 : Nat) : Int) + 1 by omega, show 99 - (j : Int) - 1 = 99 - ((j + 1 : Nat) : Int) by omega, show 12 * ((j : Int) + 1) = 12 * ((j + 1 : Nat) : Int) by omega] at hB3
          clear hO2 hM2 hb2 hL3 hK3 hB2 hn4 hc4
          go_wp2_with fail
          go_roundw
          case rel => exact ⟨j + 1, by omega, by go_num, by first | (rw [H1.out HV.out]; go_num) | rw [H2.out HV.out], ⟨V3, hB3⟩, hO3, hM3, hb3⟩
          case measure => simp [intOf]; omega
      · obtain rfl : j = n := by omega
        rw [hcN]
        go_wp2_with fail
        refine Cl.m (hwhr _) ?_
        intro x1 hy1
        go_wp2_with fail
        go_ret
        exact ⟨rfl, hbr.trans (hy1.mono hbr.size)⟩
  · have hx1 : ((whr P : Int) == 1) = false := by rw [beq_eq_false_iff_ne]; omega
    refine (bsWrite_not D A base 0 0 0 P v 0 0 100 0 4 (fun _ => 0) (.slice none 0 0) w5 hP3 hv hx (by omega) (by omega) (by omega) (by omega) (by omega) (by omega) (by omega) (by omega) hB5).mono ?_
    rintro e w6 ⟨rfl, ⟨left', V', hBb⟩, hR6, hL6, hbs⟩
    have hM6 : MB w6 m Q 0 := Blk.below hM5 hL6 hml
    have hb06 := hb05.trans (hL6.mono hwl)
    clear hM5 hB5 hb05 hL6 hx
    generalize whr P = wh at *
    go_wp2_with fail
    refine (hSeen w6 hM6).mono ?_
    rintro e w7 ⟨vl, rfl, hown, hb7⟩
    obtain ⟨lo, lc, rfl, hnu⟩ := nums_of_own hown
    rw [hn] at hnu ⊢
    have hnb : ∀ i, i < n → ∃ b off, lo = some ⟨b, off, none⟩ ∧ w7.cell? ⟨b, off + i, none⟩ = some (.int .u16 (L.getD i 0)) := fun i hi => by
      obtain ⟨b, off, h1, h2, h3⟩ := hnu i hi
      exact ⟨b, off, h1, h3⟩
    have hB7 := Blk.below hBb hb7 hBb.lt
    have hR7 := hR6.low hb7
    have hb07 := hb06.trans (hb7.mono hb06.size)
    clear hown hM6 hBb hR6 hb06 hb7 hSeen hnu hbs
    go_wp2_with fail
    go_loopw [13, 14] (fun nn i wr => ∃ j : Nat, j ≤ n ∧ i = .int .i64 (j : Int) ∧ nn = .int .i64 (cN L a j : Nat) ∧ Below w7.heap.size w7 wr) (fun _ i _ => n - (intOf i).toNat)
    case atStart => exact ⟨0, by omega, rfl, rfl, Below.refl _ _⟩
    case round =>
      obtain ⟨j, hj, rfl, rfl, hbr⟩ := hrel
      have hcl := cN_le L a j
      by_cases hjn : j < n
      · have hjn' : (j : Int) < (n : Int) := by omega
        obtain ⟨q, hq8, hqQ, hqL⟩ := hmem j (by omega)
        obtain ⟨b, off, rfl, hc⟩ := hnb j hjn
        rw [hqL] at hc
        have hcr := (hbr.cell (cell_lt hc)).trans hc
        have hst : (q * 8192 + P % 8192 = a → cN L a (j + 1) = cN L a j + 1) ∧ (q * 8192 + P % 8192 ≠ a → cN L a (j + 1) = cN L a j) := ⟨fun h => cN_yes (by omega) (by rw [hqL, h]), fun h => cN_no (by omega) (by rw [hqL]; omega)⟩
        have hv2 : q * 8192 + P % 8192 < 65536 := by omega
        generalize q * 8192 + P % 8192 = vL at *
        have hst1 := hst.1
        have hst2 := hst.2
        generalize cN L a j = cj at *
        clear hst hqL hmem hqQ hcN hc
        by_cases hva : vL = a
        all_goals
          first | (have iva : ((vL : Int) == (a : Int)) = true := by rw [beq_iff_eq]; omega) | (have iva : ((vL : Int) == (a : Int)) = false := by rw [beq_eq_false_iff_ne]; omega)
          have HV := hide hva
          have H1 := hide hst1
          have H2 := hide hst2
          clear hva hst1 hst2
          go_wp2_with fail
          refine Cl.m (hwhr _) ?_
          intro x1 hy1
          have hc1 : x1.cell? ⟨b, off + j, none⟩ = some (.int .u16 (vL : Int)) := (hy1.cell (cell_lt hcr)).trans hcr
          have hb1 := hbr.trans (hy1.mono hbr.size)
          clear hcr hbr hy1
          go_wp2_with fail
          go_roundw
          case rel => exact ⟨j + 1, by omega, by go_num, by first | (rw [H1.out HV.out]; go_num) | rw [H2.out HV.out], hb1⟩
          case measure => simp [intOf]; omega
      · obtain rfl : j = n := by omega
        rw [hcN]
        have hBr := Blk.below hB7 hbr hB7.lt
        have hRr := hR7.low hbr
        have hb0r := hb07.trans (hbr.mono hb07.size)
        go_wp2_with fail
        refine Cl.m (hwhr _) ?_
        intro x1 hy1
        have hB1 := Blk.below hBr hy1 hBr.lt
        have hR1 := hRr.low hy1
        have hb1 := hb0r.trans (hy1.mono hb0r.size)
        clear hBr hRr hb0r hbr hB7 hR7 hb07
        go_wp2_with fail
        refine Cl.m (bsRam_zero D A 0 left' V' x1 hB1 hR1) ?_
        intro x2 hy2
        go_wp2_with fail
        go_ret
        exact ⟨rfl, hb1.trans (hy2.mono hb1.size)⟩
section
open Go.ChangeShapes Go.WideShapes Go.ChangeAt
variable {H : Type} {enc : TypeId × Value → H} {W : World} {base : Nat}
theorem walk_TopMapped {v0 v1 v2 : Value} {d0 d1 d2 : DataW H} {p0 p1 p2 : List MemPlace}
    (_hsh : W.ShapedOpen Try.prog) (_hsz : (DataW.weightsEach Try.prog [22, 23, 5] [d0, d1, d2]).all (· ≤ reachBytes) = true)
    (hv0 : Value.okWide Try.prog W .any base 22 v0) (hd0 : DataW.Trod enc Try.prog W 0 (fun _ => true) true 22 v0 d0 p0) (hv1 : Value.okWide Try.prog W .any base 23 v1) (hd1 : DataW.Trod enc Try.prog W 0 (fun _ => true) true 23 v1 d1 p1) (hv2 : Value.okWide Try.prog W .any base 5 v2) (hd2 : DataW.Trod enc Try.prog W 0 (fun _ => true) true 5 v2 d2 p2) :
    Calls Try.prog 3 #[v0, v1, v2] W fun e W' => e = .returned (.bool true) ∧ Below W.heap.size W W' := by
  obtain ⟨l0, rfl, hl0⟩ := open_arr Try.underlying22 Try.underlying5 (by kernel_rfl) (by kernel_rfl) hv0 hd0
  obtain ⟨x1, rfl, h1⟩ := open_u16 Try.underlying23 hv1 hd1
  obtain ⟨x2, rfl, h2⟩ := open_u8 Try.underlying5 hv2 hd2
  have e8 : arr 8 (fun i => Value.int .u8 (l0 i)) = bk8 (fun i => (l0 i).toNat) := by
    show _ = arr 8 (fun i => Value.int .u8 (((l0 i).toNat : Nat) : Int))
    refine arr_congr fun i hi => ?_
    have := bounds_u8 (hl0 i hi)
    rw [Int.toNat_of_nonneg (by omega)]
  rw [e8]
  exact topMapped_calls _ x1 x2 W h1 h2 (fun i hi => by
    have := bounds_u8 (hl0 i hi)
    show (l0 i).toNat < 256
    omega)
end
end Go.Proofs.Ytemfdkoipeedeaa
