/-
  Package modes: Listing.
-/
import Derived.Test.YtlojabeeonhceaaDoorMod9
namespace Go.Proofs.YtlojabeeonhceaaDoor
set_option linter.unusedSimpArgs false
set_option linter.unusedVariables false
set_option maxRecDepth 10000
open Go.RowKit Go.Shelf Pl
theorem own1_row {w : World} {base n : Nat} {e : TypeId} {v : Value} {xs : List Value} (h : w.ownsRow base e 1 v n xs) (hn : 0 < n) :
    ∃ (g cap : Nat) (cur : Array Value), v = .slice (some ⟨g, 0, none⟩) n cap ∧ base ≤ g ∧ Blk w g e cur ∧ n ≤ cap ∧ ∀ (j : Nat) (u : Value), xs[j]? = some u → cur[j]? = some u := by
  rcases h.2 with ⟨_, h0⟩ | ⟨g, cap, cur, rfl, hb, hh, hc, _, _, ht⟩
  · omega
  · refine ⟨g, cap, cur, rfl, hb, hh, hc, fun j u hj => ?_⟩
    have hl : j < xs.length := (List.getElem?_eq_some_iff.1 hj).1
    rw [← ht, List.getElem?_take] at hj
    rw [h.1] at hl
    rw [if_pos (by omega)] at hj
    simpa using hj
theorem lnS_size (n : Nat) (B : Nat → Nat) (p j : Nat) (hb : B (off n B j) < 256) : (lnS n B p j).size ≤ 60 := by
  unfold lnS
  have h1 := lnT_size (n - off n B j) (fun i => B (off n B j + i)) ((p + off n B j) % 65536) hb
  have h2 : (hexT ((p + off n B j) % 65536) 4).length = 4 := hexT_len _ _
  rw [ByteArray.size_append, ByteArray.size_append, ba_size (hexT _ _)]
  have : (⟨#[58, 32]⟩ : ByteArray).size = 2 := rfl
  omega
def sliLen : Value → Nat
  | .slice _ n _ => n
  | _ => 0
set_option maxHeartbeats 4000000 in
theorem listing_calls (b o n c p : Nat) (a0 : Option Addr) (M : Int) (B : Nat → Nat) (w : World) (hn : n ≤ 200) (hnc : n ≤ c) (hp : p < 65536) (ha0 : 0 < n → a0 = some ⟨b, o, none⟩) (hB : Byt w b o n B) (hM : w.cell? ⟨0, 0, none⟩ = some (.int .i64 M)) :
    Calls Tryd.prog 6 #[.slice a0 n c, .int .u16 (p : Int)] w fun e w' => ∃ (N : Nat) (v : Value), e = .returned v ∧ off n B N = n ∧ N ≤ n ∧ (∀ i, i < N → off n B i < n) ∧ w'.ownsRow w.heap.size 9 1 v N (lnL n B p N) ∧ Below w.heap.size w w' := by
  obtain ⟨i0, hi, hz0, hz1, hz2⟩ := info_parts infoStr
  have hM0 : (⟨0, 0, none⟩ : Addr).block < w.heap.size := cell_lt hM
  go_enter Tryd.func6, Tryd.ntmps6
  go_wp2_with fail
  go_loopw [0, 1, 5] (fun v0 v1 v5 wr => ∃ (j k : Nat) (a : Option Addr), off n B j = k ∧ k ≤ n ∧ j ≤ k ∧ (∀ i, i < j → off n B i < n) ∧ (k < n → a = some ⟨b, o + k, none⟩) ∧ v0 = .slice a (n - k) (c - k) ∧ v1 = .int .u16 (((p + k) % 65536 : Nat) : Int) ∧ wr.ownsRow w.heap.size 9 1 v5 j (lnL n B p j) ∧ Below w.heap.size w wr) (fun v0 _ _ _ => sliLen v0)
  case atStart => exact ⟨0, 0, a0, rfl, by omega, by omega, fun i hi => absurd hi (by omega), ha0, rfl, by rw [Nat.add_zero, Nat.mod_eq_of_lt hp], World.ownsRow_nil _ _ _ _, Below.refl _ _⟩
  case round =>
    obtain ⟨j, k, a, hk, hkn, hjk, hall, ha, rfl, rfl, hown, hb⟩ := hrel
    rcases Nat.lt_or_ge k n with hlt | hge
    · obtain rfl := ha hlt
      clear ha ha0
      have hBk := hB.at k (n - k) (by omega)
      have hbk := (hB k hlt).2
      have hMr := (hb.cell (p := ⟨0, 0, none⟩) hM0).trans hM
      have hone := oneM_calls b (o + k) (n - k) (c - k) ((p + k) % 65536) M (fun i => B (k + i)) wr (by omega) (by omega) (by omega) (hBk.low hb) hMr
      have hlz := lnN_le (n - k) (B (k + 0)) (by omega)
      have hsz := lnT_size (n - k) (fun i => B (k + i)) ((p + k) % 65536) hbk
      have hE : Hid (lnL n B p j ++ [.string (⟨(hexT ((p + k) % 65536) 4).toArray⟩ ++ ⟨#[58, 32]⟩ ++ lnT (n - k) (fun i => B (k + i)) ((p + k) % 65536))] = lnL n B p (j + 1)) := by
        show _ = _
        rw [lnL_snoc]
        unfold lnS
        rw [hk]
      have hoff : Hid (off n B (j + 1) = k + lnN (n - k) (B (k + 0))) := by
        show off n B j + lnN (n - off n B j) (B (off n B j)) = _
        rw [hk, Nat.add_zero]
      have hx4 : (hexT ((p + k) % 65536) 4).length = 4 := hexT_len _ _
      have hhx := fun W => octHexK_calls ((p + k) % 65536) 4 (((p + k) % 65536 : Nat) : Int) W rfl (by omega) (by decide)
      generalize lnT (n - k) (fun i => B (k + i)) ((p + k) % 65536) = s at *
      generalize lnN (n - k) (B (k + 0)) = z at *
      have ea : Hid ((p + k + z) % 65536 = ((p + k) % 65536 + z) % 65536) := by show _ = _; omega
      have hq : (p + k) % 65536 < 65536 := by omega
      generalize hexT ((p + k) % 65536) 4 = x at *
      generalize (p + k) % 65536 = q at *
      have hmk : Hid (∀ z : Nat, n - k - z = n - (k + z) ∧ c - k - z = c - (k + z)) := by show ∀ _, _; intro z; omega
      have hm1 : 1 ≤ n - k := by omega
      have hmc : n - k ≤ c - k := by omega
      have hm2 : n - k ≤ 200 := by omega
      have hkz : k + z ≤ n := by omega
      have hkz2 : k + z < n → z < n - k := by omega
      have kz1 := hlz.1
      have kz2 := hlz.2
      clear hlz
      generalize n - k = m at *
      generalize c - k = cc at *
      have k1 : (0 : Int) < (m : Int) := by omega
      have k2 : 0 < m := by omega
      have k3 : (z : Int) ≤ (m : Int) := by omega
      have k4 : (z : Int) ≤ (cc : Int) := by omega
      have k5 : z ≤ cc := by omega
      have hbase0 := hb.size
      go_wp2_with fail
      refine Cl.m hone ?_
      intro w1 hb1
      have hown1 := own1_keep hown fun g hg => hb1.block g (own1_lt hown hg)
      have hb01 := hb.trans (hb1.mono hb.size)
      clear hown hone hb hBk hMr
      go_wp2_with fail
      refine Cl.m (hhx _) ?_
      intro w2 hb2
      have hown2 := own1_keep hown1 fun g hg => hb2.block g (own1_lt hown1 hg)
      have hb02 := hb01.trans (hb2.mono hb01.size)
      have hbase := hb02.size
      clear hown1 hb01 hhx
      have hjn : j + 1 ≤ 201 := by omega
      go_wp2_with (at_builtin; refine Shut.out ?_)
      unfold Shut

      generalize (⟨x.toArray⟩ ++ ⟨#[58, 32]⟩ ++ s : ByteArray) = U at *
      refine wpList_append_one rfl _ _ 28 rfl w.heap.size 9 i0 _ 16 Tryd.underlying28 hi hz0 hz1 hz2 rfl _ _ _ rfl hown2 (.string U) rfl rfl (by unfold maxLen; omega) (by omega) hbase ?_
      intro gg cap w3 hown3 hkp
      rw [hE.out] at hown3
      have hb3 := hb02.trans hkp.1
      clear hown2 hb02 hkp hE hbase hbase0
      have hNk : ∀ i, i < j + 1 → off n B i < n := fun i hi => by
        rcases Nat.lt_or_ge i j with h | h
        · exact hall i h
        · obtain rfl : i = j := by omega
          omega
      have hj1 : j + 1 ≤ k + z := by omega
      clear hall hk hjk hjn hbk hsz hi hz0 hz1 hz2
      have hqz : IntKind.u16.wrap ((q : Int) + (z : Int)) = (((q + z) % 65536 : Nat) : Int) := by rw [IntKind.wrap_u16]; omega
      have hea := ea.out
      rw [← hea] at hqz
      have hea2 : Hid ((p + k + z) % 65536 = (p + (k + z)) % 65536) := by show _ = _; rw [Nat.add_assoc]
      generalize (p + k + z) % 65536 = r at *
      clear hea ea
      have hI : Hid (IntKind.u16.wrap ((q : Int) + (z : Int)) = (r : Int)) := hide hqz
      clear hqz
      by_cases hcz : cc = z
      · subst hcz
        go_wp2_with fail
        refine ⟨⟨j + 1, k + cc, some ⟨b, o + k, none⟩, hoff.out, hkz, hj1, hNk, fun h => absurd (hkz2 h) (by omega), ?_, ?_, hown3, hb3⟩, ?_⟩
        · rw [← (hmk.out cc).1, ← (hmk.out cc).2, show m - cc = 0 by omega, Nat.sub_self]
        · rw [hI.out, hea2.out]
        · show 0 < m
          omega
      · have c1 : ¬ cc - z = 0 := by omega
        have c2 : (cc - z == 0) = false := by rw [beq_eq_false_iff_ne]; omega
        have c3 : z < cc := by omega
        go_wp2_with fail
        refine ⟨⟨j + 1, k + z, some ⟨b, o + k + z, none⟩, hoff.out, hkz, hj1, hNk, fun h => by rw [Nat.add_assoc], ?_, ?_, hown3, hb3⟩, ?_⟩
        · rw [← (hmk.out z).1, ← (hmk.out z).2]
        · rw [hI.out, hea2.out]
        · show m - z < m
          omega
    · obtain rfl : k = n := by omega
      rw [Nat.sub_self]
      go_wp2_with fail
      go_ret
      exact ⟨j, _, rfl, hk, hjk, hall, hown, hb⟩
end Go.Proofs.YtlojabeeonhceaaDoor
