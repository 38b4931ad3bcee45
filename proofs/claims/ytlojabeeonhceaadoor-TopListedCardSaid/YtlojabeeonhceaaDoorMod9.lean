/-
  Package modes: one, Text, Listing.
-/
import Derived.Test.YtlojabeeonhceaaDoorMod8
import Derived.Test.YtlojabeeonhceaaDoorApp1
namespace Go.Proofs.YtlojabeeonhceaaDoor
set_option linter.unusedSimpArgs false
set_option linter.unusedVariables false
set_option maxRecDepth 10000
open Go.RowKit Go.Shelf Pl
set_option maxHeartbeats 4000000 in
theorem oneM_calls (b o n c p : Nat) (M : Int) (B : Nat → Nat) (w : World) (hn : 1 ≤ n) (hnc : n ≤ c) (hp : p < 65536) (hB : Byt w b o n B) (hM : w.cell? ⟨0, 0, none⟩ = some (.int .i64 M)) :
    Calls Tryd.prog 15 #[.slice (some ⟨b, o, none⟩) n c, .int .u16 (p : Int)] w fun e w' => e = .returned (.tuple #[.string (lnT n B p), .int .i64 (lnN n (B 0) : Int)]) ∧ Below w.heap.size w w' := by
  by_cases hD : knoS (nmB (B 0)) = true ∧ sizB (B 0) ≤ n ∧ 0 < modeB (B 0)
  · exact oneD_calls b o n c p M B w hn hnc hp hB hD.1 hD.2.1 hD.2.2 hM
  have hB00 := hB 0 (by omega)
  rw [Nat.add_zero] at hB00
  obtain ⟨hc, hb⟩ := hB00
  have hof := opOf_calls (B 0) M w hb hM
  have hz := sizB_le (B 0)
  have hze := sizB_eq (B 0)
  unfold opV at hof
  rw [hze] at hof
  have hkn := fun W => known_calls (B 0) W hb
  have hpl := fun W => place_calls (B 0) W hb
  have hq := modeB_lt (B 0) hb
  have hns := nameS_le _ (nmB_size (B 0) hb)
  have hop := fun W (h1 : 1 ≤ modeB (B 0)) (hz2 : sizB (B 0) ≤ n) (hBW : Byt W b o n B) => opnd_calls (modeB (B 0)) b (o + 1) (sizB (B 0) - 1) (c - 1) ((p + sizB (B 0)) % 65536) (fun i => B (1 + i)) W h1 hq (by omega) (by omega) (by omega) (hBW.at 1 _ (by omega))
  have hol := opnd_len (modeB (B 0)) (fun i => B (1 + i)) ((p + sizB (B 0)) % 65536)
  have hdl := dlr_len (B 0) 2 rfl
  unfold lnT lnN isI
  generalize opnd (modeB (B 0)) (fun i => B (1 + i)) ((p + sizB (B 0)) % 65536) = T at *
  generalize dlr (B 0) 2 = dl at *
  generalize nameS (nmB (B 0)) = ns at *
  generalize cycM ns (modeB (B 0)) = cy at *
  generalize modeB (B 0) = q at *
  generalize knoS (nmB (B 0)) = k at *
  generalize sizB (B 0) = z at *
  clear hze
  have i0 : (0 : Int) < (n : Int) := by omega
  have j0 : 0 < n := by omega
  clear hop
  cases k
  case false =>
    go_enter Tryd.func15, Tryd.ntmps15
    go_wp2_with fail
    refine Cl.m hof ?_
    intro w1 hb1
    have hbx : Below w.heap.size w (w1.alloc (.cells #[Value.string ns, Value.int .u8 (q : Int), Value.int .i64 (z : Int), Value.int .i64 cy] 26)) := Bl.alloc hb1 _
    have hcx := (hbx.cell (cell_lt hc)).trans hc
    clear hof
    go_wp2_with fail
    refine Cl.m (hkn _) ?_
    intro w2 hb2
    have hb02 : Below w.heap.size w w2 := hbx.trans (hb2.mono hbx.size)
    have hc2 := (hb02.cell (cell_lt hc)).trans hc
    go_wp2_with fail
    refine Cl.m (hpl _) ?_
    intro w3 hb3
    go_wp2_with fail
    go_ret2
    exact ⟨rfl, hb02.trans (hb3.mono hb02.size)⟩
  case true =>
    rcases Nat.lt_or_ge n z with hlt | hge
    · have hd : decide (z ≤ n) = false := decide_eq_false (by omega)
      have i1 : (n : Int) < (z : Int) := by omega
      rw [hd]
      go_enter Tryd.func15, Tryd.ntmps15
      go_wp2_with fail
      refine Cl.m hof ?_
      intro w1 hb1
      have hbx : Below w.heap.size w (w1.alloc (.cells #[Value.string ns, Value.int .u8 (q : Int), Value.int .i64 (z : Int), Value.int .i64 cy] 26)) := Bl.alloc hb1 _
      have hcx := (hbx.cell (cell_lt hc)).trans hc
      have hX : Blk (w1.alloc (.cells #[Value.string ns, Value.int .u8 (q : Int), Value.int .i64 (z : Int), Value.int .i64 cy] 26)) w1.heap.size 26 #[Value.string ns, Value.int .u8 (q : Int), Value.int .i64 (z : Int), Value.int .i64 cy] := Blk.new _ _ _
      clear hof hd
      go_wp2_with fail
      refine Cl.m (hkn _) ?_
      intro w2 hb2
      have hb02 : Below w.heap.size w w2 := hbx.trans (hb2.mono hbx.size)
      have hc2 := (hb02.cell (cell_lt hc)).trans hc
      have hX2 := hX.below hb2 hX.lt
      have hz2 : w2.cell? ⟨w1.heap.size, 2, none⟩ = some (.int .i64 (z : Int)) := hX2.cell 2
      clear hX hX2
      go_wp2_with fail
      refine Cl.m (hpl _) ?_
      intro w3 hb3
      go_wp2_with fail
      go_ret2
      exact ⟨rfl, hb02.trans (hb3.mono hb02.size)⟩
    · have hd : decide (z ≤ n) = true := decide_eq_true (by omega)
      have i1 : (decide ((n : Int) < (z : Int))) = false := decide_eq_false (by omega)
      rw [hd]
      rcases Nat.eq_zero_or_pos q with hq0 | hq1
      · subst hq0
        go_enter Tryd.func15, Tryd.ntmps15
        go_wp2_with fail
        refine Cl.m hof ?_
        intro w1 hb1
        have hbx : Below w.heap.size w (w1.alloc (.cells #[Value.string ns, Value.int .u8 0, Value.int .i64 (z : Int), Value.int .i64 cy] 26)) := Bl.alloc hb1 _
        have hcx := (hbx.cell (cell_lt hc)).trans hc
        have hX : Blk (w1.alloc (.cells #[Value.string ns, Value.int .u8 0, Value.int .i64 (z : Int), Value.int .i64 cy] 26)) w1.heap.size 26 #[Value.string ns, Value.int .u8 0, Value.int .i64 (z : Int), Value.int .i64 cy] := Blk.new _ _ _
        clear hof hd
        go_wp2_with fail
        refine Cl.m (hkn _) ?_
        intro w2 hb2
        have hb02 : Below w.heap.size w w2 := hbx.trans (hb2.mono hbx.size)
        have hX2 := hX.below hb2 hX.lt
        have hz2 : w2.cell? ⟨w1.heap.size, 2, none⟩ = some (.int .i64 (z : Int)) := hX2.cell 2
        have hz1 : w2.cell? ⟨w1.heap.size, 1, none⟩ = some (.int .u8 0) := hX2.cell 1
        have hz0 : w2.cell? ⟨w1.heap.size, 0, none⟩ = some (.string ns) := hX2.cell 0
        clear hX hX2
        go_wp2_with fail
        go_region
        all_goals
          go_wp2_with fail
          go_ret2
          exact ⟨rfl, hb02.drew⟩
      · exact absurd ⟨rfl, hge, hq1⟩ hD
theorem textM_calls (b o n c p : Nat) (M : Int) (B : Nat → Nat) (w : World) (hn : 1 ≤ n) (hnc : n ≤ c) (hp : p < 65536) (hB : Byt w b o n B) (hM : w.cell? ⟨0, 0, none⟩ = some (.int .i64 M)) :
    Calls Tryd.prog 9 #[.slice (some ⟨b, o, none⟩) n c, .int .u16 (p : Int)] w fun e w' => e = .returned (.string (lnT n B p)) ∧ Below w.heap.size w w' := by
  have h := oneM_calls b o n c p M B w hn hnc hp hB hM
  generalize lnT n B p = s at *
  generalize lnN n (B 0) = k at *
  have hnz : ((n : Int) == 0) = false := by rw [beq_eq_false_iff_ne]; omega
  have hnz2 : ¬ n = 0 := by omega
  clear hB hM
  go_enter Tryd.func9, Tryd.ntmps9
  go_wp2_with fail
  refine Cl.m h ?_
  intro w1 hb1
  go_wp2_with fail
  go_ret
  exact ⟨rfl, hb1⟩
theorem infoStr : (Tryd.prog.info? 9).map (fun i => (i.zero, i.size, i.bytes)) = some (some (.string ByteArray.empty), 1, 16) := by kernel_rfl
theorem lnN_le (n b : Nat) (hn : 1 ≤ n) : 1 ≤ lnN n b ∧ lnN n b ≤ n := by
  unfold lnN
  have := sizB_le b
  split
  · rename_i h
    unfold isI at h
    have := (Bool.and_eq_true_iff.1 h).2
    have := of_decide_eq_true this
    omega
  · omega
theorem ba_size (l : List UInt8) : (⟨l.toArray⟩ : ByteArray).size = l.length := by simp [ByteArray.size]
theorem lnT_size (n : Nat) (B : Nat → Nat) (p : Nat) (hb : B 0 < 256) : (lnT n B p).size ≤ 50 := by
  unfold lnT
  have h1 := nameS_le _ (nmB_size (B 0) hb)
  have h2 := opnd_len (modeB (B 0)) (fun i => B (1 + i)) ((p + sizB (B 0)) % 65536)
  have h3 := dlr_len (B 0) 2 rfl
  split
  · split
    · omega
    · rw [ByteArray.size_append, ByteArray.size_append, ba_size (opnd _ _ _)]
      have : (⟨#[32]⟩ : ByteArray).size = 1 := rfl
      omega
  · rw [ByteArray.size_append, ba_size (dlr _ _)]
    have : (⟨#[46, 98, 121, 116, 101, 32]⟩ : ByteArray).size = 6 := rfl
    omega
/-- Where a listing's line begins. -/
noncomputable def off (n : Nat) (B : Nat → Nat) : Nat → Nat
  | 0 => 0
  | j + 1 => off n B j + lnN (n - off n B j) (B (off n B j))
/-- A listing's line. -/
noncomputable def lnS (n : Nat) (B : Nat → Nat) (p j : Nat) : ByteArray :=
  ⟨(hexT ((p + off n B j) % 65536) 4).toArray⟩ ++ ⟨#[58, 32]⟩ ++ lnT (n - off n B j) (fun i => B (off n B j + i)) ((p + off n B j) % 65536)
noncomputable def lnL (n : Nat) (B : Nat → Nat) (p N : Nat) : List Value := (List.range N).map fun j => .string (lnS n B p j)
theorem lnL_snoc (n : Nat) (B : Nat → Nat) (p N : Nat) : lnL n B p (N + 1) = lnL n B p N ++ [.string (lnS n B p N)] := by simp [lnL, List.range_succ]
theorem lnL_get (n : Nat) (B : Nat → Nat) (p N j : Nat) (h : j < N) : (lnL n B p N)[j]? = some (.string (lnS n B p j)) := by simp [lnL, h]
end Go.Proofs.YtlojabeeonhceaaDoor
