/-
  gannetlaw10: arguments opened.
-/
import Derived.Test.YtndochgmhnpdfaaL10
namespace Go.Proofs.Ytndochgmhnpdfaa
open Go.RowKit
section
open Go.ChangeShapes Go.WideShapes Go.ChangeAt
variable {H : Type} {enc : TypeId × Value → H} {W : World} {base : Nat}
def cNat : Value → Nat | .int _ n => n.toNat | _ => 0
def cYes : Value → Bool | .bool b => b | _ => false
theorem open_stp {v : Value} {d : DataW H} {p : List MemPlace} (hv : Value.okWide Try.prog W .any base 23 v) (hd : DataW.Trod enc Try.prog W 0 (fun _ => true) true 23 v d p) :
    ∃ (a : Option Addr) (len cap : Nat) (Wr : Nat → Bool) (Bv : Nat → Nat), v = .slice a len cap ∧ StpB W a len Wr Bv W.heap.size := by
  obtain ⟨a, len, cap, C, rfl, hr, hl, hm, hf⟩ := open_rows Try.underlying23 Try.underlying40 (by kernel_rfl) (by kernel_rfl) (by decide) hv hd
  refine ⟨a, len, cap, fun i => cYes (C i 0), fun i => cNat (C i 1), rfl, fun i hi => ?_⟩
  obtain ⟨b, off, rfl, hlt, hc⟩ := hr i hi
  obtain ⟨_, _, h0⟩ := hf i hi 0 _ rfl
  obtain ⟨_, _, h1⟩ := hf i hi 1 _ rfl
  obtain ⟨x, hx⟩ := field_bool Try.underlying4 h0
  obtain ⟨y, hy, hyl⟩ := field_u8 Try.underlying5 h1
  have c0 := hc 0 (by decide)
  have c1 := hc 1 (by decide)
  rw [hx] at c0
  rw [hy] at c1
  refine ⟨b, off, rfl, hlt, ?_, ?_, ?_⟩
  · simp only [hx, cYes]; exact c0
  · simp only [hy, cNat, Int.toNat_natCast]; rw [Nat.add_assoc]; exact c1
  · simp only [hy, cNat, Int.toNat_natCast]; exact hyl
theorem open_bytes {P : Program} {w : World} {spare : Nat → Bool} {held : Bool} {r : Reach} {b0 : Nat} {t e : TypeId} {v : Value} {d : DataW H} {ps : List MemPlace}
    (ht : P.underlying t = some (.slice e)) (he : P.underlying e = some (.int .u8)) (hc : P.cellsOf e = 1) (hv : Value.okWide P w r b0 t v) (hd : DataW.Trod enc P w base spare held t v d ps) :
    ∃ (a : Option Addr) (len cap : Nat) (A : Nat → Nat), v = .slice a len cap ∧ NumsAt w .u8 a len (fun i => (A i : Int)) ∧ len ≤ maxLen ∧ (∀ i, i < len → A i < 256) := by
  obtain ⟨a, len, cap, g, rfl, hn, h1, h2, hw⟩ := open_nums ht he hc hv hd
  refine ⟨a, len, cap, fun i => (g i).toNat, rfl, fun i hi => ?_, Nat.le_trans h1 h2, fun i hi => ?_⟩
  · have := bounds_u8 (hw i hi)
    obtain ⟨b, off, ha, hlt, hcl⟩ := hn i hi
    refine ⟨b, off, ha, hlt, ?_⟩
    show w.cell? _ = some (.int .u8 ((g i).toNat : Int))
    rw [Int.toNat_of_nonneg (by omega)]
    exact hcl
  · have := bounds_u8 (hw i hi)
    show (g i).toNat < 256
    omega
theorem walk_PortReads {v0 v1 v2 : Value} {d0 d1 d2 : DataW H} {p0 p1 p2 : List MemPlace}
    (_hsh : W.ShapedOpen Try.prog) (_hsz : (DataW.weightsEach Try.prog [22, 23, 23] [d0, d1, d2]).all (· ≤ reachBytes) = true)
    (hv0 : Value.okWide Try.prog W .any base 22 v0) (hd0 : DataW.Trod enc Try.prog W 0 (fun _ => true) true 22 v0 d0 p0) (hv1 : Value.okWide Try.prog W .any base 23 v1) (hd1 : DataW.Trod enc Try.prog W 0 (fun _ => true) true 23 v1 d1 p1) (hv2 : Value.okWide Try.prog W .any base 23 v2) (hd2 : DataW.Trod enc Try.prog W 0 (fun _ => true) true 23 v2 d2 p2) :
    Calls Try.prog 3 #[v0, v1, v2] W fun e W' => e = .returned (.bool true) ∧ Below W.heap.size W W' := by
  obtain ⟨a, n, c, A, rfl, hL, _, hA⟩ := open_bytes Try.underlying22 Try.underlying5 (by kernel_rfl) hv0 hd0
  obtain ⟨sa, m, cm, Wa, Ba, rfl, hSa⟩ := open_stp hv1 hd1
  obtain ⟨sb, k, ck, Wb, Bb, rfl, hSb⟩ := open_stp hv2 hd2
  have hr := slice_reach _hsz Try.underlying22 hd0 (j := 0) rfl rfl
  have hb : Try.prog.bytesOf 5 = 1 := by kernel_rfl
  rw [hb] at hr
  have := reachBytes_lt
  exact portReads_calls a sa sb n c m cm k ck A Wa Wb Ba Bb W (by omega) hL hA hSa hSb
theorem walk_PortClears {v0 v1 : Value} {d0 d1 : DataW H} {p0 p1 : List MemPlace}
    (_hsh : W.ShapedOpen Try.prog) (_hsz : (DataW.weightsEach Try.prog [23, 5] [d0, d1]).all (· ≤ reachBytes) = true)
    (hv0 : Value.okWide Try.prog W .any base 23 v0) (hd0 : DataW.Trod enc Try.prog W 0 (fun _ => true) true 23 v0 d0 p0) (hv1 : Value.okWide Try.prog W .any base 5 v1) (hd1 : DataW.Trod enc Try.prog W 0 (fun _ => true) true 5 v1 d1 p1) :
    Calls Try.prog 4 #[v0, v1] W fun e W' => e = .returned (.bool true) ∧ Below W.heap.size W W' := by
  obtain ⟨sa, m, cm, Wa, Ba, rfl, hSa⟩ := open_stp hv0 hd0
  obtain ⟨r, rfl, hr⟩ := open_u8 Try.underlying5 hv1 hd1
  exact portClears_calls sa m cm r Wa Ba W hr hSa
end
end Go.Proofs.Ytndochgmhnpdfaa
