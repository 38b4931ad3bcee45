/-
  gannetref18: Set, Get; gannetlaw18: play.
-/
import Derived.Test.YtjaibacpojpfhaaL18b
import Derived.Test.YtjaibacpojpfhaaOpenS
namespace Go.Proofs.Ytjaibacpojpfhaa
open Go.RowKit Pl

theorem RM.set {w : World} {g : Nat} {A : Nat → Nat} {l : Nat} (h : RM w g A l) (n v : Nat) (hn : n < 8) : RM (w.setCell ⟨g, n, none⟩ (.int .u8 (v : Int))) g (updn A n v) l := by
  unfold RM
  rw [← mc_set A l n v hn]
  exact Blk.set_ h n _
theorem RM.setLast {w : World} {g : Nat} {A : Nat → Nat} {l : Nat} (h : RM w g A l) (v : Nat) : RM (w.setCell ⟨g, 8, none⟩ (.int .u8 (v : Int))) g A v := by
  unfold RM
  rw [← mc_last A l v]
  exact Blk.set_ h 8 _
theorem RM.congr {w : World} {g : Nat} {A B : Nat → Nat} {l : Nat} (h : RM w g A l) (e : ∀ i, i < 8 → A i = B i) : RM w g B l := by
  unfold RM at *
  rw [← mc_congr l e]
  exact h
def setP (k b : Nat) (A : Nat → Nat) (j : Nat) : Nat → Nat := fun i => if i < j ∧ tbN k i = true then b else A i
theorem setP_yes (k b : Nat) (A : Nat → Nat) (j : Nat) (h : tbN k j = true) : updn (setP k b A j) j b = setP k b A (j + 1) := by
  funext i
  unfold updn setP
  by_cases e : i = j
  · subst e
    rw [if_pos rfl, if_pos ⟨by omega, h⟩]
  · rw [if_neg e]
    by_cases h2 : i < j ∧ tbN k i = true
    · rw [if_pos h2, if_pos ⟨by omega, h2.2⟩]
    · rw [if_neg h2, if_neg (fun h3 => h2 ⟨by omega, h3.2⟩)]
theorem setP_no (k b : Nat) (A : Nat → Nat) (j : Nat) (h : tbN k j = false) : setP k b A j = setP k b A (j + 1) := by
  funext i
  unfold setP
  by_cases h2 : i < j ∧ tbN k i = true
  · rw [if_pos h2, if_pos ⟨by omega, h2.2⟩]
  · rw [if_neg h2, if_neg (fun h3 => by
      by_cases e : i = j
      · subst e
        rw [h] at h3
        exact absurd h3.2 (by simp)
      · exact h2 ⟨by omega, h3.2⟩)]
theorem setP_8 (k b : Nat) (A : Nat → Nat) (i : Nat) (h : i < 8) : setP k b A 8 i = setK k b A i := by
  unfold setP setK
  by_cases h2 : tbN k i = true
  · rw [if_pos ⟨h, h2⟩, if_pos h2]
  · rw [if_neg (fun h3 => h2 h3.2), if_neg h2]
set_option maxHeartbeats 8000000 in
theorem r18Set_calls (g k b l : Nat) (A : Nat → Nat) (w : World) (hk : k < 256) (hM : RM w g A l) :
    Calls Try.prog 27 #[.pointer (some ⟨g, 0, none⟩), .int .u8 (k : Int), .int .u8 (b : Int)] w
      fun e w' => (∃ v, e = .returned v) ∧ RM w' g (setK k b A) b ∧ Only (fun j => j = g) w w' := by
  go_enter Try.func27, Try.ntmps27
  go_wp2_with fail
  go_loopw [6] (fun i wr => ∃ j : Nat, j ≤ 8 ∧ i = .int .i64 (j : Int) ∧ RM wr g (setP k b A j) l ∧ Only (fun j => j = g) w wr) (fun i _ => 8 - (intOf i).toNat)
  case atStart => exact ⟨0, by omega, rfl, RM.congr hM (fun i _ => by unfold setP; rw [if_neg (by omega)]), Only.refl _ _⟩
  case round =>
    obtain ⟨j, hj, rfl, hMr, hor⟩ := hrel
    by_cases hjn : j < 8
    · have hjn' : (j : Int) < 8 := by omega
      have hbit := fun W => refBit_calls k (j : Int) W hk
      have x0 := RM.get hMr j hjn
      have x1 : wr.frozen? ⟨g, j, none⟩ = false := Blk.frozen hMr j
      by_cases hp : tbN k j = true
      · have hp' : tb k (j : Int) = true := hp
        rw [hp'] at hbit
        have hs := setP_yes k b A j hp
        clear hp hp'
        go_wp2_with fail
        refine Cl.p (hbit _) ?_
        go_wp2_with fail
        go_roundw
        case rel => exact ⟨j + 1, by omega, by go_num, by rw [← hs]; exact RM.set hMr j b hjn, hor.setCell ⟨g, j, none⟩ rfl _⟩
        case measure => simp [intOf]; omega
      · have hp0 : tbN k j = false := by simpa using hp
        have hp' : tb k (j : Int) = false := hp0
        rw [hp'] at hbit
        have hs := setP_no k b A j hp0
        clear hp hp' hp0
        go_wp2_with fail
        refine Cl.p (hbit _) ?_
        go_wp2_with fail
        go_roundw
        case rel => exact ⟨j + 1, by omega, by go_num, by rw [← hs]; exact hMr, hor⟩
        case measure => simp [intOf]; omega
    · obtain rfl : j = 8 := by omega
      have hM8 := RM.congr hMr (fun i hi => setP_8 k b A i hi)
      have x0 : wr.cell? ⟨g, 8, none⟩ = some (.int .u8 (l : Int)) := Blk.cell hM8 8
      have x1 : wr.frozen? ⟨g, 8, none⟩ = false := Blk.frozen hM8 8
      go_wp2_with fail
      go_end0
      exact ⟨⟨_, rfl⟩, RM.setLast hM8 b, hor.setCell ⟨g, 8, none⟩ rfl _⟩
/-- What is moved last, the d highest pages of the mask being through. -/
def gR (k : Nat) (A : Nat → Nat) (l : Nat) : Nat → Nat
  | 0 => l
  | d + 1 => if tbN k (7 - d) = true then A (7 - d) else gR k A l d
theorem gR_getK (k : Nat) (A : Nat → Nat) (l : Nat) : ∀ d, d ≤ 8 → getK k A l = (match eL (tbN k) (8 - d) with | [] => gR k A l d | x :: _ => A x.1)
  | 0, _ => rfl
  | d + 1, h => by
    rw [gR_getK k A l d (by omega)]
    have e : 8 - d = (8 - (d + 1)) + 1 := by omega
    have e7 : 7 - d = 8 - (d + 1) := by omega
    rw [e, show gR k A l (d + 1) = (if tbN k (7 - d) = true then A (7 - d) else gR k A l d) from rfl, e7]
    generalize hj : 8 - (d + 1) = j
    have hj8 : j < 8 := by omega
    by_cases hp : tbN k j = true
    · rw [eL_yes _ j hj8 hp, if_pos hp]
      cases eL (tbN k) j <;> rfl
    · rw [eL_no _ j (by simpa using hp), if_neg hp]
theorem gR_8 (k : Nat) (A : Nat → Nat) (l : Nat) : gR k A l 8 = getK k A l := (gR_getK k A l 8 (Nat.le_refl _)).symm
set_option maxHeartbeats 8000000 in
theorem r18Get_calls (g k l : Nat) (A : Nat → Nat) (w : World) (hk : k < 256) (hM : RM w g A l) :
    Calls Try.prog 28 #[.pointer (some ⟨g, 0, none⟩), .int .u8 (k : Int)] w
      fun e w' => e = .returned (.int .u8 (getK k A l : Nat)) ∧ RM w' g A (getK k A l) ∧ Only (fun j => j = g) w w' := by
  rw [← gR_8]
  go_enter Try.func28, Try.ntmps28
  go_wp2_with fail
  go_loopw [5] (fun i wr => ∃ d : Nat, d ≤ 8 ∧ i = .int .i64 (7 - (d : Int)) ∧ RM wr g A (gR k A l d) ∧ Only (fun j => j = g) w wr) (fun i _ => (intOf i + 1).toNat)
  case atStart => exact ⟨0, by omega, rfl, hM, Only.refl _ _⟩
  case round =>
    obtain ⟨d, hd, rfl, hMr, hor⟩ := hrel
    by_cases hjn : d < 8
    · obtain ⟨j, hj⟩ : ∃ j, 7 - d = j := ⟨_, rfl⟩
      have hje : (7 : Int) - (d : Int) = (j : Int) := by omega
      have hj8 : j < 8 := by omega
      have hj8' : (j : Int) < 8 := by omega
      have hbit := fun W => refBit_calls k (j : Int) W hk
      have x0 := RM.get hMr j hj8
      have x2 : wr.cell? ⟨g, 8, none⟩ = some (.int .u8 (gR k A l d : Int)) := Blk.cell hMr 8
      have x1 : wr.frozen? ⟨g, 8, none⟩ = false := Blk.frozen hMr 8
      have hs : gR k A l (d + 1) = if tbN k (7 - d) = true then A (7 - d) else gR k A l d := rfl
      rw [hj] at hs
      rw [hje]
      by_cases hp : tbN k j = true
      · have hp' : tb k (j : Int) = true := hp
        rw [hp'] at hbit
        rw [if_pos hp] at hs
        clear hp hp'
        generalize gR k A l d = q at *
        go_wp2_with fail
        refine Cl.p (hbit _) ?_
        go_wp2_with fail
        go_roundw
        case rel => exact ⟨d + 1, by omega, by congr 1 <;> omega, by rw [hs]; exact RM.setLast hMr (A j), hor.setCell ⟨g, 8, none⟩ rfl _⟩
        case measure => simp [intOf] <;> omega
      · have hp0 : tbN k j = false := by simpa using hp
        have hp' : tb k (j : Int) = false := hp0
        rw [hp'] at hbit
        rw [if_neg hp] at hs
        clear hp hp' hp0
        generalize gR k A l d = q at *
        go_wp2_with fail
        refine Cl.p (hbit _) ?_
        go_wp2_with fail
        go_roundw
        case rel => exact ⟨d + 1, by omega, by congr 1 <;> omega, by rw [hs]; exact hMr, hor⟩
        case measure => simp [intOf] <;> omega
    · obtain rfl : d = 8 := by omega
      have x2 : wr.cell? ⟨g, 8, none⟩ = some (.int .u8 (gR k A l 8 : Int)) := Blk.cell hMr 8
      generalize hq : gR k A l 8 = q at *
      have HQ := hide hq
      clear hq
      go_wp2_with fail
      go_ret
      rw [HQ.out]
      exact ⟨rfl, hMr, hor⟩
end Go.Proofs.Ytjaibacpojpfhaa
