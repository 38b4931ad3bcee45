/-
  gannetlaw21: AdderLong.
-/
import Derived.Test.YtnjnhfkfpahniaaL21
import Derived.Test.YtnjnhfkfpahniaaLong21
namespace Go.Proofs.Ytnjnhfkfpahniaa
open Go.RowKit Pl

set_option maxHeartbeats 4000000 in
theorem adderLong_calls (a b : Option Addr) (la lb ca cb p : Nat) (sub : Bool) (A B : Nat → Nat) (w : World) (hla : la ≤ maxLen) (hlb : lb ≤ maxLen) (hp : p < 256)
    (hA : NumsAt w .u8 a la (fun i => (A i : Int))) (hB : NumsAt w .u8 b lb (fun i => (B i : Int))) (hA2 : ∀ i, i < la → A i < 256) (hB2 : ∀ i, i < lb → B i < 256) :
    Calls Try.prog 5 #[.slice a la ca, .slice b lb cb, .int .u8 (p : Int), .bool sub] w fun e w' => e = .returned (.bool true) ∧ Below w.heap.size w w' := by
  by_cases h300 : 300 < la
  · have h300' : (300 : Int) < (la : Int) := by omega
    go_enter Try.func5, Try.ntmps5
    (go_wp2_with fail; refine Cl.m (live21_calls _) ?_; intro w1 hb1)
    (go_wp2_with fail; go_ret; exact ⟨rfl, by (repeat (first | exact Below.refl _ _ | assumption | refine Below.drew ?_ | refine Bl.alloc ?_ _ | refine below_drewN ?_ _ | refine Bl.chain ?_ (by assumption) (Nat.le_refl _)))⟩)
  · have h300' : ¬ (300 : Int) < (la : Int) := by omega
    by_cases hne : la = lb
    · subst hne
      go_enter Try.func5, Try.ntmps5
      (go_wp2_with fail; refine Cl.m (live21_calls _) ?_; intro w1 hb1)
      have hA1 := hA.below hb1 (Nat.le_refl _)
      have hB1 := hB.below hb1 (Nat.le_refl _)
      go_wp2_with fail
      refine (adLong_calls a b la ca cb p sub A B _ (by omega) hp hA1 hB1 hA2 hB2).mono ?_
      rintro e w2 ⟨o, c, rfl, hO, hb2⟩
      go_wp2_with fail
      go_loopw [2, 12, 13, 14, 15] (fun q i s13 s14 s15 wr => ∃ n : Nat, n ≤ la ∧ i = .int .i64 (n : Int) ∧ q = .int .u8 (lgP sub A B p n : Nat) ∧ Below w2.heap.size w2 wr) (fun _ i _ _ _ _ => la - (intOf i).toNat)
      case atStart => exact ⟨0, Nat.zero_le _, rfl, rfl, by (repeat (first | exact Below.refl _ _ | assumption | refine Below.drew ?_ | refine Bl.alloc ?_ _ | refine below_drewN ?_ _ | refine Bl.chain ?_ (by assumption) (Nat.le_refl _)))⟩
      case round =>
        obtain ⟨n, hn, rfl, rfl, hbel⟩ := hrel
        by_cases hnl : n < la
        · have hnl' : (n : Int) < (la : Int) := by omega
          have hsz2 := hb2.size
          have hsz1 := hb1.size
          obtain ⟨ba, oa, rfl, hba, hca⟩ := hA1 n hnl
          obtain ⟨bb, ob, rfl, hbb, hcb⟩ := hB1 n hnl
          obtain ⟨bo, oo, rfl, hbo, hco⟩ := hO n hnl
          have hca' := (hbel.cell (p := ⟨ba, oa + n, none⟩) (by simp; omega)).trans ((hb2.cell (p := ⟨ba, oa + n, none⟩) (by simp; omega)).trans hca)
          have hcb' := (hbel.cell (p := ⟨bb, ob + n, none⟩) (by simp; omega)).trans ((hb2.cell (p := ⟨bb, ob + n, none⟩) (by simp; omega)).trans hcb)
          have hco' := (hbel.cell (p := ⟨bo, oo + n, none⟩) (by simp; omega)).trans hco
          have ha2 := hA2 n hnl
          have hb2' := hB2 n hnl
          have hq := lgP_lt sub A B hp n
          have h3 := r21Add_calls (A n) (B n) (lgP sub A B p n)
          have h4 := r21Sub_calls (A n) (B n) (lgP sub A B p n)
          unfold sumV at h3 h4
          cases sub
          · have hR : addR (A n) (B n) (lgP false A B p n) = lgR false A B p n := rfl
            have hP : addP (A n) (B n) (lgP false A B p n) = lgP false A B p (n + 1) := rfl
            rw [hR, hP] at h3
            go_wp2_with fail
            go_region_law (go_simp; go_at_call 11; refine Cl.m (h3 _ ha2 hb2' hq) ?_; intro w3 hb3)
            all_goals
              have hco3 := (hb3.cell (p := ⟨bo, oo + n, none⟩) (by have := hbel.size; have e0 : wr.drew.heap.size = wr.heap.size := rfl; simp; omega)).trans hco'
              go_wp2_with fail
              go_roundw
              case rel => exact ⟨n + 1, by omega, by go_num, rfl, by (repeat (first | exact Below.refl _ _ | assumption | refine Below.drew ?_ | refine Bl.alloc ?_ _ | refine below_drewN ?_ _ | refine Bl.chain ?_ (by assumption) (Nat.le_refl _)))⟩
              case measure => simp [intOf]; omega
          · have hR : subR (A n) (B n) (lgP true A B p n) = lgR true A B p n := rfl
            have hP : subP (A n) (B n) (lgP true A B p n) = lgP true A B p (n + 1) := rfl
            rw [hR, hP] at h4
            go_wp2_with fail
            go_region_law (go_simp; go_at_call 11; refine Cl.m (h3 _ ha2 hb2' hq) ?_; intro w3 hb3)
            all_goals
              have hca3 := (hb3.cell (p := ⟨ba, oa + n, none⟩) (by have := hbel.size; have e0 : wr.drew.heap.size = wr.heap.size := rfl; simp; omega)).trans hca'
              have hcb3 := (hb3.cell (p := ⟨bb, ob + n, none⟩) (by have := hbel.size; have e0 : wr.drew.heap.size = wr.heap.size := rfl; simp; omega)).trans hcb'
              have hco3 := (hb3.cell (p := ⟨bo, oo + n, none⟩) (by have := hbel.size; have e0 : wr.drew.heap.size = wr.heap.size := rfl; simp; omega)).trans hco'
              go_wp2_with fail
              go_region_law (go_simp; go_at_call 12; refine Cl.m (h4 _ ha2 hb2' hq) ?_; intro w4 hb4)
              all_goals
                have hco4 := (hb4.cell (p := ⟨bo, oo + n, none⟩) (by have := hbel.size; have := hb3.size; have e0 : wr.drew.heap.size = wr.heap.size := rfl; have e1 : w3.drew.heap.size = w3.heap.size := rfl; simp; omega)).trans hco3
                go_wp2_with fail
                go_roundw
                case rel => exact ⟨n + 1, by omega, by go_num, rfl, by (repeat (first | exact Below.refl _ _ | assumption | refine Below.drew ?_ | refine Bl.alloc ?_ _ | refine below_drewN ?_ _ | refine Bl.chain ?_ (by assumption) (Nat.le_refl _)))⟩
                case measure => simp [intOf]; omega
        · obtain rfl : n = la := by omega
          (go_wp2_with fail; go_ret; exact ⟨rfl, by (repeat (first | exact Below.refl _ _ | assumption | refine Below.drew ?_ | refine Bl.alloc ?_ _ | refine below_drewN ?_ _ | refine Bl.chain ?_ (by assumption) (Nat.le_refl _)))⟩)
    · have hne' : ((la : Int) != (lb : Int)) = true := by rw [bne_iff_ne]; omega
      go_enter Try.func5, Try.ntmps5
      (go_wp2_with fail; refine Cl.m (live21_calls _) ?_; intro w1 hb1)
      (go_wp2_with fail; refine Cl.p (adLongNo_calls a b la lb ca cb p sub _ hne hla hlb) ?_)
      (go_wp2_with fail; go_ret; exact ⟨rfl, by (repeat (first | exact Below.refl _ _ | assumption | refine Below.drew ?_ | refine Bl.alloc ?_ _ | refine below_drewN ?_ _ | refine Bl.chain ?_ (by assumption) (Nat.le_refl _)))⟩)
section
open Go.ChangeShapes Go.WideShapes Go.ChangeAt
variable {H : Type} {enc : TypeId × Value → H} {W : World} {base : Nat}
theorem open_bytes {P : Program} {w : World} {spare : Nat → Bool} {held : Bool} {r : Reach} {b0 : Nat} {t e : TypeId} {v : Value} {d : DataW H} {ps : List MemPlace}
    (ht : P.underlying t = some (.slice e)) (he : P.underlying e = some (.int .u8)) (hc : P.cellsOf e = 1) (hv : Value.okWide P w r b0 t v) (hd : DataW.Trod enc P w base spare held t v d ps) :
    ∃ (a : Option Addr) (len cap : Nat) (A : Nat → Nat), v = .slice a len cap ∧ NumsAt w .u8 a len (fun i => (A i : Int)) ∧ len ≤ maxLen ∧ (∀ i, i < len → A i < 256) := by
  obtain ⟨a, len, cap, g, rfl, hn, h1, h2, hw⟩ := open_nums ht he hc hv hd
  refine ⟨a, len, cap, fun i => (g i).toNat, rfl, fun i hi => ?_, Nat.le_trans h1 h2, fun i hi => ?_⟩
  · have := bounds_u8 (hw i hi)
    obtain ⟨b, off, ha, hlt, hcl⟩ := hn i hi
    refine ⟨b, off, ha, hlt, ?_⟩
    show w.cell? _ = some (.int .u8 ((g i).toNat : Int))
    rw [Int.toNat_of_nonneg (by omega)]
    exact hcl
  · have := bounds_u8 (hw i hi)
    show (g i).toNat < 256
    omega
theorem walk_AdderLong {v0 v1 v2 v3 : Value} {d0 d1 d2 d3 : DataW H} {p0 p1 p2 p3 : List MemPlace}
    (_hsh : W.ShapedOpen Try.prog) (_hsz : (DataW.weightsEach Try.prog [28, 28, 5, 4] [d0, d1, d2, d3]).all (· ≤ reachBytes) = true)
    (hv0 : Value.okWide Try.prog W .any base 28 v0) (hd0 : DataW.Trod enc Try.prog W 0 (fun _ => true) true 28 v0 d0 p0) (hv1 : Value.okWide Try.prog W .any base 28 v1) (hd1 : DataW.Trod enc Try.prog W 0 (fun _ => true) true 28 v1 d1 p1) (hv2 : Value.okWide Try.prog W .any base 5 v2) (hd2 : DataW.Trod enc Try.prog W 0 (fun _ => true) true 5 v2 d2 p2) (hv3 : Value.okWide Try.prog W .any base 4 v3) (hd3 : DataW.Trod enc Try.prog W 0 (fun _ => true) true 4 v3 d3 p3) :
    Calls Try.prog 5 #[v0, v1, v2, v3] W fun e W' => e = .returned (.bool true) ∧ Below W.heap.size W W' := by
  obtain ⟨a, la, ca, A, rfl, hA, hla, hA2⟩ := open_bytes Try.underlying28 Try.underlying5 (by kernel_rfl) hv0 hd0
  obtain ⟨b, lb, cb, B, rfl, hB, hlb, hB2⟩ := open_bytes Try.underlying28 Try.underlying5 (by kernel_rfl) hv1 hd1
  obtain ⟨x2, rfl, h2⟩ := open_u8 Try.underlying5 hv2 hd2
  obtain ⟨x3, rfl⟩ := open_yes Try.underlying4 hv3 hd3
  exact adderLong_calls a b la lb ca cb x2 x3 A B W hla hlb h2 hA hB hA2 hB2
end
end Go.Proofs.Ytnjnhfkfpahniaa
