/-
  gannetlaw26: MovesApply.
-/
import Derived.Test.YtifmlphfegppjaaL26b
import Derived.Test.YtifmlphfegppjaaOpenA
namespace Go.Proofs.Ytifmlphfegppjaa
open Go.RowKit

theorem mvApplyK_calls (k f t l : Nat) (o : Option Addr) (n c : Nat) (w : World) (hk : 5 ≤ k) :
    Calls Try.prog 8 #[.int .u8 (k : Int), .int .u16 (f : Int), .int .u16 (t : Int), .int .u16 (l : Int), .slice o n c] w
      fun e w' => e = .returned (.tuple #[.slice none 0 0, .int .i64 12]) ∧ w = w' := by
  have i1 : (5 : Int) ≤ (k : Int) := by omega
  go_enter Try.func8, Try.ntmps8
  go_wp2_with fail
  go_ret2
  exact ⟨rfl, rfl⟩
theorem mvApplyN_calls (k f t l : Nat) (o : Option Addr) (n c : Nat) (w : World) (hk : k < 5) (hn : n = 0 ∨ 65536 < n) :
    Calls Try.prog 8 #[.int .u8 (k : Int), .int .u16 (f : Int), .int .u16 (t : Int), .int .u16 (l : Int), .slice o n c] w
      fun e w' => e = .returned (.tuple #[.slice none 0 0, .int .i64 2]) ∧ w = w' := by
  have i1 : (decide ((5 : Int) ≤ (k : Int))) = false := by rw [decide_eq_false_iff_not]; omega
  rcases hn with rfl | hn
  · go_enter Try.func8, Try.ntmps8
    go_wp2_with fail
    go_ret2
    exact ⟨rfl, rfl⟩
  · have i2 : ((n : Int) == 0) = false := by rw [beq_eq_false_iff_ne]; omega
    have i3 : (65536 : Int) < (n : Int) := by omega
    go_enter Try.func8, Try.ntmps8
    go_wp2_with fail
    go_ret2
    exact ⟨rfl, rfl⟩
theorem row8_of_owns {W : World} {base n : Nat} {v : Value} {A : Nat → Nat} (h : W.ownsRow base 5 1 v n (rowL A n)) (h0 : 0 < n) : ∃ g c, v = .slice (some ⟨g, 0, none⟩) n c ∧ Row8 W g n A ∧ base ≤ g := by
  obtain ⟨hl, hv | ⟨g, cap, cur, rfl, hb, hh, hnn, hcap, hsz, htake⟩⟩ := h
  · exfalso
    have := hv.2
    omega
  · refine ⟨g, cap, rfl, ⟨cur, hh, by omega, fun i hi => ?_⟩, hb⟩
    have h1 : (cur.toList.take (n * 1))[i]? = (rowL A n)[i]? := by rw [htake]
    rw [List.getElem?_take_of_lt (by omega)] at h1
    rw [← Array.getElem?_toList, h1]
    simp [rowL, hi]
set_option maxRecDepth 100000 in
set_option maxHeartbeats 8000000 in
theorem movesApply_calls (k f t l : Nat) (o : Option Addr) (n c : Nat) (A : Nat → Nat) (w : World) (hf : f < 65536) (ht : t < 65536) (hl : l < 65536) (hL : NumsAt w .u8 o n fun i => (A i : Int)) :
    Calls Try.prog 3 #[.int .u8 (k : Int), .int .u16 (f : Int), .int .u16 (t : Int), .int .u16 (l : Int), .slice o n c] w fun e w' => e = .returned (.bool true) ∧ Below w.heap.size w w' := by
  by_cases h1 : 70000 < n
  · have i1 : (70000 : Int) < (n : Int) := by omega
    go_enter Try.func3, Try.ntmps3
    (go_wp2_with fail; refine Cl.m (live26_calls _) ?_; intro w1 hb1)
    (go_wp2_with fail; go_ret; exact ⟨rfl, by (repeat (first | exact Below.refl _ _ | assumption | refine Below.drew ?_ | refine Bl.alloc ?_ _ | refine below_drewN ?_ _ | refine Bl.chain ?_ (by assumption) (Nat.le_refl _)))⟩)
  · have i1 : (decide ((70000 : Int) < (n : Int))) = false := by rw [decide_eq_false_iff_not]; omega
    by_cases hk : 5 ≤ k
    · have i2 : (4 : Int) < (k : Int) := by omega
      clear h1
      go_enter Try.func3, Try.ntmps3
      (go_wp2_with fail; refine Cl.m (live26_calls _) ?_; intro w1 hb1)
      (go_wp2_with fail; refine Cl.p (mvApplyK_calls k f t l o n c _ hk) ?_)
      (go_wp2_with fail; go_ret; exact ⟨rfl, by (repeat (first | exact Below.refl _ _ | assumption | refine Below.drew ?_ | refine Bl.alloc ?_ _ | refine below_drewN ?_ _ | refine Bl.chain ?_ (by assumption) (Nat.le_refl _)))⟩)
    · have i2 : (decide ((4 : Int) < (k : Int))) = false := by rw [decide_eq_false_iff_not]; omega
      have hk' : k < 5 := by omega
      by_cases hn : n = 0 ∨ 65536 < n
      · have hA := fun W => mvApplyN_calls k f t l o n c W hk' hn
        rcases hn with rfl | hn
        · clear hk h1
          go_enter Try.func3, Try.ntmps3
          (go_wp2_with fail; refine Cl.m (live26_calls _) ?_; intro w1 hb1)
          (go_wp2_with fail; refine Cl.p (hA _) ?_)
          (go_wp2_with fail; go_ret; exact ⟨rfl, by (repeat (first | exact Below.refl _ _ | assumption | refine Below.drew ?_ | refine Bl.alloc ?_ _ | refine below_drewN ?_ _ | refine Bl.chain ?_ (by assumption) (Nat.le_refl _)))⟩)
        · have i3 : ((n : Int) == 0) = false := by rw [beq_eq_false_iff_ne]; omega
          have i4 : (65536 : Int) < (n : Int) := by omega
          clear hk h1
          go_enter Try.func3, Try.ntmps3
          (go_wp2_with fail; refine Cl.m (live26_calls _) ?_; intro w1 hb1)
          (go_wp2_with fail; refine Cl.p (hA _) ?_)
          (go_wp2_with fail; go_ret; exact ⟨rfl, by (repeat (first | exact Below.refl _ _ | assumption | refine Below.drew ?_ | refine Bl.alloc ?_ _ | refine below_drewN ?_ _ | refine Bl.chain ?_ (by assumption) (Nat.le_refl _)))⟩)
      · have i3 : ((n : Int) == 0) = false := by rw [beq_eq_false_iff_ne]; omega
        have i4 : (decide ((65536 : Int) < (n : Int))) = false := by rw [decide_eq_false_iff_not]; omega
        have h0 : 0 < n := by omega
        have hn' : n ≤ 65536 := by omega
        clear hk h1 hn
        have hcl := cnt_b l hl
        obtain ⟨a, rfl⟩ : ∃ a, o = some a := by
          obtain ⟨b, off, e, _⟩ := hL 0 h0
          exact ⟨_, e⟩
        obtain ⟨x0, hi, hz0, hz1, hz2⟩ := info_parts (show (Try.prog.info? 5).map (fun i => (i.zero, i.size, i.bytes)) = some (some (.int .u8 0), 1, 1) by kernel_rfl)
        go_enter Try.func3, Try.ntmps3
        (go_wp2_with fail; refine Cl.m (live26_calls _) ?_; intro w1 hb1)
        go_wp2_with fail
        refine (mvApply_calls k f t l (some a) n c A _ hk' hf ht hl h0 hn' (hL.below hb1 (Nat.le_refl _))).mono ?_
        rintro e w2 ⟨g, c2, rfl, hR2, hg2, hb2⟩
        have hs1 := hb1.size
        have hb02 : Below w.heap.size w w2 := hb1.trans (hb2.mono hs1)
        have hs2 := hb02.size
        have hown := World.ownsRow_lit w2 (base := w2.heap.size) (e := 5) (size := 1) #[] 0 (Nat.le_refl _) (by decide) rfl
        go_wp2_with (at_builtin; refine wpList_append_own _ rfl _ _ 23 rfl w2.heap.size 5 x0 (.int .u8 0) 1 1 Try.underlying23 hi hz0 hz1 hz2 rfl (by decide) _ _ _ rfl hown _ n c (rowL A n) rfl (by simp [rowL]) ?c1 ?c2 ?c3 (by omega) (by simp) ?_)
        case c1 =>
          intro j u hu
          have hj : j < n := by
            have := (List.getElem?_eq_some_iff.1 hu).1
            simpa [rowL] using this
          obtain ⟨b, off, ha, hlt, hc⟩ := hL j hj
          injection ha with ha
          subst ha
          have e : u = .int .u8 (A j : Int) := by simpa [rowL, hj, eq_comm] using hu
          rw [add_plain, e]
          exact ((Bl.alloc hb02 _).cell (p := ⟨b, off + j, none⟩) hlt).trans hc
        case c2 =>
          intro u hu
          obtain ⟨x, _, rfl⟩ := List.mem_map.1 hu
          rfl
        case c3 => unfold maxLen; omega
        intro v1 w3 hown1 hgrow1 _
        obtain ⟨gw, cw, rfl, hR3, hg3⟩ := row8_of_owns hown1 h0
        have hb23 : Below w2.heap.size w2 w3 := (Bl.alloc (Below.refl _ _) _).grown hgrow1 (by simp) (fun k hk => (hown.lt k hk).1)
        have hb03 : Below w.heap.size w w3 := hb02.trans (hb23.mono hs2)
        have hQ3 : Row8 w3 g n (mvA k f t n A (cnt l)) := hR2.below hb23 hR2.lt
        have hne : g < gw := Nat.lt_of_lt_of_le hR2.lt hg3
        clear hown hown1 hgrow1 hR2 hL
        go_wp2_with fail
        go_loopw [14] (fun i wr => ∃ j : Nat, j ≤ cnt l ∧ i = .int .i64 (j : Int) ∧ Row8 wr gw n (mvA k f t n A j) ∧ Only (fun b => b = gw) w3 wr) (fun i _ => cnt l - (intOf i).toNat)
        case atStart => exact ⟨0, by omega, rfl, hR3, Only.refl _ _⟩
        case round =>
          obtain ⟨j, hj, rfl, hR, hor⟩ := hrel
          (go_wp2_with fail; refine Cl.p (rCount_calls l _ hl) ?_)
          by_cases hjn : j < cnt l
          · have hjn' : (j : Int) < (cnt l : Int) := by omega
            (go_wp2_with fail; refine Cl.p (rAt_calls k f t j _ _ rfl hk' hf ht (by omega)) ?_)
            have hF := wyF_lt k f j
            have hT := wyT_lt k t j ht
            have hs : mvA k f t n A (j + 1) = updn (mvA k f t n A j) (wyT k t j % n) (mvA k f t n A j (wyF k f j % n)) := rfl
            generalize mvA k f t n A j = C at *
            generalize wyF k f j = F at *
            generalize wyT k t j = T at *
            have hp : F % n < n := Nat.mod_lt _ h0
            have hq : T % n < n := Nat.mod_lt _ h0
            have ep : (F : Int) % (n : Int) = ((F % n : Nat) : Int) := by omega
            have w1' : IntKind.i64.wrap (F : Int) = (F : Int) := by rw [IntKind.wrap_i64]; omega
            have w2' : IntKind.i64.wrap (T : Int) = (T : Int) := by rw [IntKind.wrap_i64]; omega
            have ep2 : (F : Int).tmod (n : Int) = ((F % n : Nat) : Int) := by rw [Int.tmod_eq_emod_of_nonneg (by omega)]; omega
            have eq2 : (T : Int).tmod (n : Int) = ((T % n : Nat) : Int) := by rw [Int.tmod_eq_emod_of_nonneg (by omega)]; omega
            have eq_ : (T : Int) % (n : Int) = ((T % n : Nat) : Int) := by omega
            have y3 : wr.drew.cell? ⟨gw, F % n, none⟩ = some (.int .u8 (C (F % n) : Int)) := hR.cell _ hp
            have y4 : wr.drew.cell? ⟨gw, T % n, none⟩ = some (.int .u8 (C (T % n) : Int)) := hR.cell _ hq
            have y5 : wr.drew.frozen? ⟨gw, T % n, none⟩ = false := hR.frozen _
            generalize F % n = p at *
            generalize T % n = q at *
            have hp' : (p : Int) < (n : Int) := by omega
            have hq' : (q : Int) < (n : Int) := by omega
            have hp2 : (decide ((n : Int) ≤ (p : Int))) = false := by rw [decide_eq_false_iff_not]; omega
            have hq2 : (decide ((n : Int) ≤ (q : Int))) = false := by rw [decide_eq_false_iff_not]; omega
            have hn0 : (n = 0) = False := eq_false (by omega)
            have yS : (wr.drew.setCell ⟨gw, q, none⟩ (.int .u8 (C p : Int))).cell? ⟨gw, p, none⟩ = some (.int .u8 (C p : Int)) := by
              rw [(Row8.set (W := wr.drew) hR q (C p)).cell p hp]
              unfold updn
              split <;> rfl
            go_wp2_with fail
            go_region_held3 (fun w' => w'.cell? ⟨gw, p, none⟩ = some (.int .u8 (C p : Int))) (first | exact yS | exact y3) (fail)
            all_goals
              go_wp2_with fail
              go_roundw
              case rel => exact ⟨j + 1, by omega, by go_num, by rw [hs]; exact Row8.set (W := wr) hR q (C p), (hor.setCell ⟨gw, q, none⟩ rfl _).drew⟩
              case measure => simp [intOf]; omega
          · obtain rfl : j = cnt l := by omega
            have hb3r : Below w.heap.size w wr := hb03.trans (hor.below hb03.size (fun q e => by omega))
            have hQr := hQ3.only hor (by omega)
            go_wp2_with fail
            refine Cl.m (refSame_calls _ _ n n _ _ _ _ _ hQr.nums hR.nums (by unfold maxLen; omega) (by unfold maxLen; omega) rfl (fun i _ => rfl)) ?_
            intro w9 hb9
            (go_wp2_with fail; go_ret; exact ⟨rfl, by (repeat (first | exact Below.refl _ _ | assumption | refine Below.drew ?_ | refine Bl.alloc ?_ _ | refine below_drewN ?_ _ | refine Bl.chain ?_ (by assumption) (Nat.le_refl _)))⟩)
section
open Go.ChangeShapes Go.WideShapes Go.ChangeAt
variable {H : Type} {enc : TypeId × Value → H} {W : World} {base : Nat}
theorem walk_MovesApply {v0 v1 v2 v3 v4 : Value} {d0 d1 d2 d3 d4 : DataW H} {p0 p1 p2 p3 p4 : List MemPlace}
    (_hsh : W.ShapedOpen Try.prog) (_hsz : (DataW.weightsEach Try.prog [5, 22, 22, 22, 23] [d0, d1, d2, d3, d4]).all (· ≤ reachBytes) = true)
    (hv0 : Value.okWide Try.prog W .any base 5 v0) (hd0 : DataW.Trod enc Try.prog W 0 (fun _ => true) true 5 v0 d0 p0) (hv1 : Value.okWide Try.prog W .any base 22 v1) (hd1 : DataW.Trod enc Try.prog W 0 (fun _ => true) true 22 v1 d1 p1) (hv2 : Value.okWide Try.prog W .any base 22 v2) (hd2 : DataW.Trod enc Try.prog W 0 (fun _ => true) true 22 v2 d2 p2) (hv3 : Value.okWide Try.prog W .any base 22 v3) (hd3 : DataW.Trod enc Try.prog W 0 (fun _ => true) true 22 v3 d3 p3) (hv4 : Value.okWide Try.prog W .any base 23 v4) (hd4 : DataW.Trod enc Try.prog W 0 (fun _ => true) true 23 v4 d4 p4) :
    Calls Try.prog 3 #[v0, v1, v2, v3, v4] W fun e W' => e = .returned (.bool true) ∧ Below W.heap.size W W' := by
  obtain ⟨x0, rfl, h0⟩ := open_u8 Try.underlying5 hv0 hd0
  obtain ⟨x1, rfl, h1⟩ := open_u16 Try.underlying22 hv1 hd1
  obtain ⟨x2, rfl, h2⟩ := open_u16 Try.underlying22 hv2 hd2
  obtain ⟨x3, rfl, h3⟩ := open_u16 Try.underlying22 hv3 hd3
  obtain ⟨o4, n4, c4, A4, rfl, hL4, hm4, hA4⟩ := open_bytes Try.underlying23 Try.underlying5 (by kernel_rfl) hv4 hd4
  exact movesApply_calls x0 x1 x2 x3 o4 n4 c4 A4 W h1 h2 h3 hL4
end
end Go.Proofs.Ytifmlphfegppjaa
