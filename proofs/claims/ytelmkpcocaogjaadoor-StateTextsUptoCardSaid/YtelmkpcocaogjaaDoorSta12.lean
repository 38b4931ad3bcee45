/-
  Package state: speed, banks.
-/
import Derived.Test.YtelmkpcocaogjaaDoorSta10
import Derived.Test.YtelmkpcocaogjaaDoorOdig
import Derived.Test.YtelmkpcocaogjaaDoorR01c
import Derived.Test.YtelmkpcocaogjaaDoorFread
namespace Go.Proofs.YtelmkpcocaogjaaDoor
open Go.RowKit Pl

theorem infoStr' : (Tryd.prog.info? 9).map (fun i => (i.zero, i.size, i.bytes)) = some (some (.string ByteArray.empty), 1, 16) := by kernel_rfl
def str (l : List UInt8) : ByteArray := ⟨l.toArray⟩
theorem str_app (a b : List UInt8) : str a ++ str b = str (a ++ b) := ba_append a b
theorem stSpeed_calls (b : Bool) (w : World) :
    Calls Tryd.prog 26 #[.bool b] w fun e w' => e = .returned (.string (str (spd (if b then 1 else 0)))) ∧ w = w' := by
  cases b
  · go_enter Tryd.func26, Tryd.ntmps26
    go_wp2_with fail
    go_ret
    exact ⟨rfl, rfl⟩
  · go_enter Tryd.func26, Tryd.ntmps26
    go_wp2_with fail
    go_ret
    exact ⟨rfl, rfl⟩
theorem stHex2_calls (n : Nat) (w : World) (hn : n < 256) :
    Calls Tryd.prog 23 #[.int .u32 (n : Int), .int .i64 2] w fun e w' => e = .returned (.string (str (hx n))) ∧ Below w.heap.size w w' :=
  octHex_calls n 2 w (by omega) (by decide) (by decide)
theorem stHex4_calls (n : Nat) (w : World) (hn : n < 65536) :
    Calls Tryd.prog 23 #[.int .u32 (n : Int), .int .i64 4] w fun e w' => e = .returned (.string (str (hexT n 4))) ∧ Below w.heap.size w w' :=
  octHex_calls n 4 w (by omega) (by decide) (by decide)
/-- The banks, as an array's cells. -/
def bkA (R : Nat → Nat) : Array Value := #[.int .u8 (R 6 : Int), .int .u8 (R 7 : Int), .int .u8 (R 8 : Int), .int .u8 (R 9 : Int), .int .u8 (R 10 : Int), .int .u8 (R 11 : Int), .int .u8 (R 12 : Int), .int .u8 (R 13 : Int)]
def strL (S : Nat → List UInt8) (n : Nat) : List Value := (List.range n).map fun j => .string (str (S j))
theorem strL_snoc (S : Nat → List UInt8) (n : Nat) : strL S (n + 1) = strL S n ++ [.string (str (S n))] := by simp [strL, List.range_succ]
theorem strL_get (S : Nat → List UInt8) (n j : Nat) (h : j < n) : (strL S n)[j]? = some (.string (str (S j))) := by simp [strL, h]
/-- Join, of a row that the call owns. -/
theorem join_own {w : World} {base n : Nat} {v : Value} (S : Nat → List UInt8) (hown : w.ownsRow base 9 1 v n (strL S n)) (hn : 0 < n) (hn2 : n ≤ 1000) (sep : List UInt8)
    (hlen : (Lib.join ((List.range n).map S) sep).length ≤ 140737488355328) :
    Calls Tryd.prog 27 #[v, .string (str sep)] w fun e w' => e = .returned (.string (str (Lib.join ((List.range n).map S) sep))) ∧ Below w.heap.size w w' := by
  obtain ⟨g, cap, cur, rfl, hb, hB, hc, hcs⟩ := own1_row hown hn
  have hl : ((List.range n).map fun j => str (S j)).length = n := by simp
  have hm : ((List.range n).map fun j => str (S j)).map (fun b : ByteArray => b.data.toList) = (List.range n).map S := by simp [str]
  have h := Tryd.strings_Join g 0 cap ((List.range n).map fun j => str (S j)) (str sep) w (fun j x hj => by
    have hjn : j < n := by have := (List.getElem?_eq_some_iff.1 hj).1; rw [hl] at this; exact this
    have e : x = str (S j) := by
      simp [hjn] at hj
      exact hj.symm
    rw [Nat.zero_add, e, hB.cell]
    exact hcs j _ (strL_get S n j hjn)) hB.lt (by rw [hl]; omega) (by rw [hl]; exact hc) (by rw [hm]; simpa [str] using hlen)
  rw [hl, hm] at h
  simpa [str] using h
set_option maxRecDepth 100000 in
set_option maxHeartbeats 1000000 in
theorem stBanks_calls (R : Nat → Nat) (w : World) (hR : ROk R) :
    Calls Tryd.prog 25 #[.agg (bkA R)] w fun e w' => e = .returned (.string (str (Lib.join (bkL R) [46]))) ∧ Below w.heap.size w w' := by
  have hX : Blk (w.alloc (.cells (bkA R) 23)) w.heap.size 23 (bkA R) := Blk.new _ _ _
  have hbA : Below w.heap.size w (w.alloc (.cells (bkA R) 23)) := Bl.alloc (Below.refl _ _) _
  obtain ⟨i0, hi, hz0, hz1, hz2⟩ := info_parts infoStr'
  go_enter Tryd.func25, Tryd.ntmps25
  go_wp2_with (refine wpList_load_row rfl 23 _ rfl w.heap.size rfl _ (bkA R) (0, 0) _ hX Tryd.underlying23 rfl (by kernel_rfl) ?_)
  go_loopw [3, 7] (fun v i wr => ∃ k : Nat, k ≤ 8 ∧ i = .int .i64 (k : Int) ∧ wr.ownsRow w.heap.size 9 1 v k (strL (fun j => hx (R (6 + j))) k) ∧ Below w.heap.size w wr) (fun _ i _ => 8 - (intOf i).toNat)
  case atStart => exact ⟨0, Nat.zero_le _, rfl, World.ownsRow_nil _ _ _ _, hbA⟩
  case round =>
    obtain ⟨k, hk, rfl, hown, hb⟩ := hrel
    clear hX hbA
    by_cases hlt : k < 8
    · have hix : ∀ w : World, (Instr.index 23 (.agg (bkA R)) (.int .i64 (k : Int))).run Tryd.prog w = .ok (.int .u8 (R (6 + k) : Int)) w :=
        fun w => run_index_row 23 5 8 Tryd.underlying23 (fun _ => by kernel_rfl) (fun _ => by kernel_rfl) _ .i64 k hlt _ (by match k, hlt with
          | 0, _ | 1, _ | 2, _ | 3, _ | 4, _ | 5, _ | 6, _ | 7, _ => rfl) w
      have hlt' : (k : Int) < 8 := by omega
      have hRk := hR.b (6 + k) (by omega) (by omega)
      go_wp2_with fail
      refine Cl.m (stHex2_calls (R (6 + k)) _ hRk) ?_
      intro w1 hb1
      have hown1 : w1.ownsRow w.heap.size 9 1 u3 k (strL (fun j => hx (R (6 + j))) k) := own1_keep hown fun g hg => hb1.block g (own1_lt hown hg)
      have hb01 := hb.trans (hb1.mono hb.size)
      have hbase := hb01.size
      have HL : Hid (strL (fun j => hx (R (6 + j))) k ++ [.string (str (hx (R (6 + k))))] = strL (fun j => hx (R (6 + j))) (k + 1)) := (strL_snoc (fun j => hx (R (6 + j))) k).symm
      clear hown hb hb1
      go_wp2_with (at_builtin; refine wpList_append_one rfl _ _ 32 rfl w.heap.size 9 i0 _ 16 Tryd.underlying32 hi hz0 hz1 hz2 rfl _ _ _ rfl hown1 (.string (str (hx (R (6 + k))))) rfl rfl (by unfold maxLen; omega) (by omega) hbase ?_; intro gg cap w2 hown2 hkp)
      have hb2 := hb01.trans hkp.1
      rw [HL.out] at hown2
      clear hkp hown1 hb01
      go_wp2_with fail
      go_roundw
      case rel => exact ⟨k + 1, by omega, by go_num, hown2, hb2⟩
      case measure => simp [intOf]; omega
    · obtain rfl : k = 8 := by omega
      go_wp2_with fail
      refine Cl.m (join_own (fun j => hx (R (6 + j))) hown (by decide) (by decide) [46] (show 23 ≤ 140737488355328 from by decide)) ?_
      intro w1 hb1
      go_wp2_with fail
      go_ret
      exact ⟨rfl, hb.trans (hb1.mono hb.size)⟩
end Go.Proofs.YtelmkpcocaogjaaDoor
