/-
  gannetref04: Same; cart: Read, Word.
-/
import Derived.Test.YtjgobmgoidioiaaCart1
import Derived.Test.YtjgobmgoidioiaaOct
import Derived.Test.YtjgobmgoidioiaaPhys
import Derived.Deep.RegionHeld3
namespace Go.Proofs.Ytjgobmgoidioiaa
open Go.RowKit Pl

set_option maxHeartbeats 4000000 in
theorem rcSame_calls (a b : Option Addr) (n ca cb : Nat) (At : Nat → Int) (O O2 : Nat → Option Addr) (Ln C C2 : Nat → Nat) (By : Nat → Nat → Int) (B : Nat) (w : World) (hn : n ≤ maxLen) (hln : ∀ i, i < n → Ln i ≤ maxLen)
    (hP : PieB w a n At O Ln C By w.heap.size) (hQ : PieB w b n At O2 Ln C2 By w.heap.size) :
    Calls Try.prog 11 #[.slice a n ca, .slice b n cb] w fun e w' => e = .returned (.bool true) ∧ Below w.heap.size w w' := by
  unfold maxLen at hn
  have zn : ((n : Int) != (n : Int)) = false := bne_self_eq_false _
  go_enter Try.func11, Try.ntmps11
  go_wp2_with fail
  go_loopw [5] (fun i wr => ∃ j : Nat, j ≤ n ∧ i = .int .i64 (j : Int) ∧ Below w.heap.size w wr) (fun i _ => n - (intOf i).toNat)
  case atStart => exact ⟨0, by omega, rfl, Below.refl _ _⟩
  case round =>
    obtain ⟨j, hj, rfl, hbr⟩ := hrel
    by_cases hjn : j < n
    · have hjn' : (j : Int) < (n : Int) := by omega
      have hbd : Below w.heap.size w wr.drew := hbr.drew
      obtain ⟨b1, o1, rfl, hlt1, x0, x1, hN1⟩ := (hP.below hbd (Nat.le_refl _)) j hjn
      obtain ⟨b2, o2, rfl, hlt2, y0, y1, hN2⟩ := (hQ.below hbd (Nat.le_refl _)) j hjn
      have hsz : w.heap.size ≤ wr.drew.heap.size := hbd.size
      have hs := refSame_calls (O j) (O2 j) (Ln j) (Ln j) (C j) (C2 j) (By j) (By j) wr.drew hN1.nums hN2.nums (hln j hjn) (hln j hjn) rfl (fun _ _ => rfl)
      have hl1 : b1 < wr.drew.heap.size := by omega
      have hl2 : b2 < wr.drew.heap.size := by omega
      have z1 : ((At j : Int) != (At j : Int)) = false := bne_self_eq_false _
      clear hP hQ hln hN1 hN2
      go_wp2_with fail
      go_region_held3 (fun w' => w'.cell? ⟨b1, o1 + j * 2, none⟩ = some (.int .i64 (At j)) ∧ w'.cell? ⟨b1, o1 + j * 2 + 1, none⟩ = some (.slice (O j) (Ln j) (C j)) ∧ w'.cell? ⟨b2, o2 + j * 2, none⟩ = some (.int .i64 (At j)) ∧ w'.cell? ⟨b2, o2 + j * 2 + 1, none⟩ = some (.slice (O2 j) (Ln j) (C2 j)))
        (first | exact ⟨q0, q1, q2, q3⟩ | exact ⟨x0, x1, y0, y1⟩)
        (first
        | (go_at_call 23; refine Cl.m hs ?_; intro w2 hb2; have q0 := (hb2.cell (p := ⟨b1, o1 + j * 2, none⟩) hl1).trans x0; have q1 := (hb2.cell (p := ⟨b1, o1 + j * 2 + 1, none⟩) hl1).trans x1; have q2 := (hb2.cell (p := ⟨b2, o2 + j * 2, none⟩) hl2).trans y0; have q3 := (hb2.cell (p := ⟨b2, o2 + j * 2 + 1, none⟩) hl2).trans y1))
      all_goals
        have hb3 : Below w.heap.size w w2 := hbd.trans (hb2.mono hsz)
        go_wp2_with fail
        go_roundw
        case rel => exact ⟨j + 1, by omega, by go_num, hb3⟩
        case measure => simp [intOf]; omega
    · obtain rfl : j = n := by omega
      go_wp2_with fail
      go_ret
      exact ⟨rfl, hbr⟩
/-- The byte at an address. -/
def rdR (n : Nat) (F : Nat → Int) (a : Nat) : Int := if whr a = 0 ∧ a % 2097152 < n then F (a % 2097152) else 255
theorem ctRead_calls (n c a : Nat) (o : Option Addr) (F : Nat → Int) (w : World) (hn : n ≤ 281474976710656) (ha : a < 4294967296) (hL : NumsAt w .u8 o n F) :
    Calls Try.prog 10 #[.slice o n c, .int .u32 (a : Int)] w fun e w' => e = .returned (.int .u8 (rdR n F a)) ∧ Below w.heap.size w w' := by
  have hB := bnk_lt a
  have hback : adr (bnk a) (a % 8192) = a % 2097152 := adr_back a
  have had := fun W => phAddr_calls (bnk a) (a % 8192) W hB (by omega)
  rw [hback] at had
  obtain ⟨x, hx⟩ : ∃ x, a % 2097152 = x := ⟨_, rfl⟩
  rw [hx] at had
  have hx2 : x < 2097152 := by omega
  obtain ⟨y, hy⟩ : ∃ y, a % 8192 = y := ⟨_, rfl⟩
  have hof := fun W => phOff_calls a W ha
  rw [hy] at had hof
  have hrd : rdR n F a = if whr a = 0 ∧ x < n then F x else 255 := by unfold rdR; rw [hx]
  rw [hrd]
  obtain ⟨z, hz⟩ : ∃ z, whr a = z := ⟨_, rfl⟩
  have hwh := fun W => phWhere_calls a W ha
  rw [hz] at hwh ⊢
  have hxi : (x : Int) < 2097152 := by omega
  clear hback hrd hz hx hy
  by_cases h1 : z = 0
  · subst h1
    by_cases h2 : x < n
    · rw [if_pos ⟨rfl, h2⟩]
      have i1 : (decide ((n : Int) ≤ (x : Int))) = false := by rw [decide_eq_false_iff_not]; omega
      have i2 : (x : Int) < (n : Int) := by omega
      go_enter Try.func10, Try.ntmps10
      (go_wp2_with fail; refine Cl.p (phBank_calls a _ ha) ?_)
      (go_wp2_with fail; refine Cl.p (hof _) ?_)
      (go_wp2_with fail; refine Cl.p (had _) ?_)
      go_wp2_with fail
      refine Cl.m (hwh _) ?_
      intro w1 hb1
      obtain ⟨b, off, rfl, hlt, hc⟩ := hL.below hb1 (Nat.le_refl _) x h2
      clear had hof hwh hL hn
      have i1' : (decide (n ≤ x)) = false := by rw [decide_eq_false_iff_not]; omega
      rw [show ((0 : Nat) : Int) = 0 from rfl]
      go_wp2_with fail
      go_ret
      exact ⟨rfl, hb1⟩
    · rw [if_neg (fun h => h2 h.2)]
      have i1 : (n : Int) ≤ (x : Int) := by omega
      go_enter Try.func10, Try.ntmps10
      (go_wp2_with fail; refine Cl.p (phBank_calls a _ ha) ?_)
      (go_wp2_with fail; refine Cl.p (hof _) ?_)
      (go_wp2_with fail; refine Cl.p (had _) ?_)
      go_wp2_with fail
      refine Cl.m (hwh _) ?_
      intro w1 hb1
      go_wp2_with fail
      go_ret
      exact ⟨rfl, hb1⟩
  · rw [if_neg (fun h => h1 h.1)]
    have i0 : ((z : Int) != 0) = true := by rw [bne_iff_ne]; omega
    go_enter Try.func10, Try.ntmps10
    (go_wp2_with fail; refine Cl.p (phBank_calls a _ ha) ?_)
    (go_wp2_with fail; refine Cl.p (hof _) ?_)
    (go_wp2_with fail; refine Cl.p (had _) ?_)
    go_wp2_with fail
    refine Cl.m (hwh _) ?_
    intro w1 hb1
    go_wp2_with fail
    go_ret
    exact ⟨rfl, hb1⟩
theorem whr_low (a : Nat) (h : a < 8192) : whr a = 0 := whr_rom a (by unfold bnk; omega)
theorem rdR_low (n : Nat) (F : Nat → Int) (a : Nat) (h : a < 8192) (hn : 8192 ≤ n) : rdR n F a = F a := by
  unfold rdR
  rw [whr_low a h, show a % 2097152 = a from by omega, if_pos ⟨rfl, by omega⟩]
end Go.Proofs.Ytjgobmgoidioiaa
