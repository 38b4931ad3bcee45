/-
  The texts Long21 of the proof of TopSums, as one file (they are merged by a program).
-/
import Derived.Test.YtplobngbjpgcgaaGreatDoorA23
import Derived.Test.YtplobngbjpgcgaaGreatDoorA19
import Derived.Deep.RegionLaw
import Derived.Deep.AppendLies
section
/-
  adder.doer, its two closures, adder.Long.
-/
namespace Go.Proofs.YtplobngbjpgcgaaGreatDoor
set_option linter.unusedSimpArgs false
set_option linter.unusedVariables false
set_option maxRecDepth 10000
open Go.RowKit Pl

def lgO (sub : Bool) (A B : Nat → Nat) (p n : Nat) : List Int := (List.range n).map fun i => (lgR sub A B p i : Int)
theorem lgO_succ (sub : Bool) (A B : Nat → Nat) (p n : Nat) : (lgO sub A B p (n + 1)).map (Value.int .u8) = (lgO sub A B p n).map (Value.int .u8) ++ [.int .u8 (lgR sub A B p n : Int)] := by
  unfold lgO
  simp [List.range_succ]
theorem lgO_get (sub : Bool) (A B : Nat → Nat) (p n i : Nat) (h : i < n) : (lgO sub A B p n).getD i 0 = (lgR sub A B p i : Int) := by
  unfold lgO
  simp [List.getD, h]

theorem adDo_calls (a b p : Nat) (sub : Bool) (gp gs : Nat) (w : World) (ha : a < 256) (hb : b < 256) (hp : p < 256)
    (hcp : w.cell? ⟨gp, 0, none⟩ = some (.int .u8 (p : Int))) (hfp : w.frozen? ⟨gp, 0, none⟩ = false) (hcs : w.cell? ⟨gs, 0, none⟩ = some (.bool sub)) :
    Calls Tryz.prog 71 #[.int .u8 (a : Int), .int .u8 (b : Int), .pointer (some ⟨gs, 0, none⟩), .pointer (some ⟨gp, 0, none⟩)] w
      fun e w' => e = .returned (.int .u8 (opR sub a b p : Nat)) ∧ w.setCell ⟨gp, 0, none⟩ (.int .u8 (opP sub a b p : Nat)) = w' := by
  have h1 := adAdd_calls a b p
  have h2 := adSub_calls a b p
  unfold sumV at h1 h2
  cases sub
  · go_enter Tryz.func71, Tryz.ntmps71
    (go_wp2_with fail; refine Cl.p (h1 _ ha hb hp) ?_)
    go_wp2_with fail
    go_ret
    exact ⟨rfl, rfl⟩
  · go_enter Tryz.func71, Tryz.ntmps71
    (go_wp2_with fail; refine Cl.p (h2 _ ha hb hp) ?_)
    go_wp2_with fail
    go_ret
    exact ⟨rfl, rfl⟩
theorem adBehind_calls (p gp : Nat) (w : World) (hcp : w.cell? ⟨gp, 0, none⟩ = some (.int .u8 (p : Int))) :
    Calls Tryz.prog 74 #[.pointer (some ⟨gp, 0, none⟩)] w fun e w' => e = .returned (.int .u8 (p : Int)) ∧ w = w' := by
  go_enter Tryz.func74, Tryz.ntmps74
  go_wp2
  go_ret
  exact ⟨rfl, rfl⟩
theorem adDoer_calls (p : Nat) (sub : Bool) (w : World) :
    Calls Tryz.prog 25 #[.int .u8 (p : Int), .bool sub] w
      fun e w' => e = .returned (.tuple #[.func (.func 71) #[] #[.pointer (some ⟨w.heap.size + 1, 0, none⟩), .pointer (some ⟨w.heap.size, 0, none⟩)], .func (.func 74) #[] #[.pointer (some ⟨w.heap.size, 0, none⟩)]])
        ∧ (w.alloc (.cells #[.int .u8 (p : Int)] 5)).alloc (.cells #[.bool sub] 4) = w' := by
  go_enter Tryz.func25, Tryz.ntmps25
  go_wp2
  go_ret2
  exact ⟨rfl, rfl⟩

theorem adLong_calls (a b : Option Addr) (la ca cb p : Nat) (sub : Bool) (A B : Nat → Nat) (w : World) (hla : la ≤ 1000000) (hp : p < 256)
    (hA : NumsAt w .u8 a la (fun i => (A i : Int))) (hB : NumsAt w .u8 b la (fun i => (B i : Int))) (hA2 : ∀ i, i < la → A i < 256) (hB2 : ∀ i, i < la → B i < 256) :
    Calls Tryz.prog 7 #[.slice a la ca, .slice b la cb, .int .u8 (p : Int), .bool sub] w
      fun e w' => ∃ o c, e = .returned (.tuple #[.slice o la c, .int .u8 (lgP sub A B p la : Nat), .int .i64 0]) ∧ NumsAt w' .u8 o la (fun i => (lgR sub A B p i : Int)) ∧ Below w.heap.size w w' := by
  obtain ⟨i0, hi, hz0, hz1, hz2⟩ := info_parts infoU8d
  go_enter Tryz.func7, Tryz.ntmps7
  go_wp2_with fail
  refine (adDoer_calls p sub _).mono ?_
  rintro e w' ⟨rfl, rfl⟩
  go_wp2_with fail
  go_loopw [13, 28] (fun v i wr => ∃ n : Nat, n ≤ la ∧ i = .int .i64 (n : Int) ∧ wr.ownsRow (w.heap.size + 2) 5 1 v n ((lgO sub A B p n).map (Value.int .u8)) ∧
      wr.cell? ⟨w.heap.size, 0, none⟩ = some (.int .u8 (lgP sub A B p n : Nat)) ∧ wr.frozen? ⟨w.heap.size, 0, none⟩ = false ∧ wr.cell? ⟨w.heap.size + 1, 0, none⟩ = some (.bool sub) ∧ w.heap.size + 2 ≤ wr.heap.size ∧ Below w.heap.size w wr) (fun _ i _ => la - (intOf i).toNat)
  case atStart => exact ⟨0, Nat.zero_le _, rfl, World.ownsRow_nil _ _ _ _, by simp [go_sem, lgP], by simp [go_sem], by simp [go_sem], by simp, by (repeat (first | exact Below.refl _ _ | assumption | refine Below.drew ?_ | refine Bl.alloc ?_ _ | refine below_drewN ?_ _ | refine Bl.chain ?_ (by assumption) (Nat.le_refl _)))⟩
  case round =>
    obtain ⟨n, hn, rfl, hown, hcP, hfP, hcS, hsz, hbel⟩ := hrel
    by_cases hnl : n < la
    · have hnl' : (n : Int) < (la : Int) := by omega
      obtain ⟨ba, oa, rfl, hba, hca⟩ := hA n hnl
      obtain ⟨bb, ob, rfl, hbb, hcb⟩ := hB n hnl
      have ha2 := hA2 n hnl
      have hb2 := hB2 n hnl
      have hca' := (hbel.cell (p := ⟨ba, oa + n, none⟩) (by simp; omega)).trans hca
      have hcb' := (hbel.cell (p := ⟨bb, ob + n, none⟩) (by simp; omega)).trans hcb
      have hq := lgP_lt sub A B hp n
      have hR : opR sub (A n) (B n) (lgP sub A B p n) = lgR sub A B p n := rfl
      have hP : opP sub (A n) (B n) (lgP sub A B p n) = lgP sub A B p (n + 1) := rfl
      have HR := hide hR
      have HP := hide hP
      clear hR hP
      have hcPd : wr.drew.cell? ⟨w.heap.size, 0, none⟩ = some (.int .u8 (lgP sub A B p n : Nat)) := hcP
      have hfPd : wr.drew.frozen? ⟨w.heap.size, 0, none⟩ = false := hfP
      have hcSd : wr.drew.cell? ⟨w.heap.size + 1, 0, none⟩ = some (.bool sub) := hcS
      have hown2 := ownsRow_setCell_below hown.drew (a := ⟨w.heap.size, 0, none⟩) (by simp) (.int .u8 ((lgP sub A B p (n + 1) : Nat) : Int))
      have hbel2 : Below w.heap.size w (wr.drew.setCell ⟨w.heap.size, 0, none⟩ (.int .u8 ((lgP sub A B p (n + 1) : Nat) : Int))) := (Below.drew hbel).setCell (Nat.le_refl _) _
      have hsz2 : w.heap.size + 2 ≤ (wr.drew.setCell ⟨w.heap.size, 0, none⟩ (.int .u8 ((lgP sub A B p (n + 1) : Nat) : Int))).heap.size := by simp [World.setCell]; exact hsz
      have hcP2 : (wr.drew.setCell ⟨w.heap.size, 0, none⟩ (.int .u8 ((lgP sub A B p (n + 1) : Nat) : Int))).cell? ⟨w.heap.size, 0, none⟩ = some (.int .u8 ((lgP sub A B p (n + 1) : Nat) : Int)) := by simp [go_sem, hcP]
      have hfP2 : (wr.drew.setCell ⟨w.heap.size, 0, none⟩ (.int .u8 ((lgP sub A B p (n + 1) : Nat) : Int))).frozen? ⟨w.heap.size, 0, none⟩ = false := by simp [go_sem, hfP]
      have hcS2 : (wr.drew.setCell ⟨w.heap.size, 0, none⟩ (.int .u8 ((lgP sub A B p (n + 1) : Nat) : Int))).cell? ⟨w.heap.size + 1, 0, none⟩ = some (.bool sub) := by simp [go_sem, hcS]
      have hhs : (wr.drew.setCell ⟨w.heap.size, 0, none⟩ (.int .u8 ((lgP sub A B p (n + 1) : Nat) : Int))).heap.size = wr.heap.size := by simp [World.setCell]
      have hlt0 : w.heap.size < (wr.drew.setCell ⟨w.heap.size, 0, none⟩ (.int .u8 ((lgP sub A B p (n + 1) : Nat) : Int))).heap.size := Nat.lt_of_lt_of_le (Nat.lt_add_of_pos_right (by decide)) hsz2
      have hlt2 : w.heap.size + 1 < (wr.drew.setCell ⟨w.heap.size, 0, none⟩ (.int .u8 ((lgP sub A B p (n + 1) : Nat) : Int))).heap.size := Nat.lt_of_lt_of_le (Nat.lt_succ_self _) hsz2
      have hblk : ((wr.drew.setCell ⟨w.heap.size, 0, none⟩ (.int .u8 ((lgP sub A B p (n + 1) : Nat) : Int))).alloc (.cells #[.int .u8 (lgR sub A B p n : Int)] 5)).heap[wr.heap.size]? = some (.cells #[.int .u8 (lgR sub A B p n : Int)] 5) := by
        have := heap_alloc_new (wr.drew.setCell ⟨w.heap.size, 0, none⟩ (.int .u8 ((lgP sub A B p (n + 1) : Nat) : Int))) (.cells #[.int .u8 (lgR sub A B p n : Int)] 5)
        rw [hhs] at this
        exact this
      go_wp2_with fail
      go_region_law (first
        | (refine step_append_lies _ (by rfl) _ _ _ (by rfl) (w.heap.size + 2) 5 i0 _ 1 1 Tryz.underlying24 hi hz0 hz1 hz2 rfl (by decide) _ n ((lgO sub A B p n).map (Value.int .u8)) (by rfl) (hown2.alloc _)
            ⟨wr.heap.size, 0, none⟩ 1 1 [.int .u8 (lgR sub A B p n : Int)] (by rfl) (by rfl) (World.news_of_block (cs := #[.int .u8 (lgR sub A B p n : Int)]) (t := 5) (fr := (0, 0)) hblk) (by simp [Value.oneCell'])
            (by omega) (by unfold maxLen; omega) (by omega) (by simp; omega) _ rfl ?_; intro gg cap w1 hown1 hgrow1 hat hlt)
        | (go_simp; go_at_call 71; refine (adDo_calls (A n) (B n) _ sub w.heap.size (w.heap.size + 1) wr.drew ha2 hb2 hq hcPd hfPd hcSd).mono ?_; rintro e w' ⟨rfl, rfl⟩; rw [HR.out, HP.out]))
      all_goals
        have hne0 := own_ne hown2 (g := w.heap.size) (by omega)
        have hne1 := own_ne hown2 (g := w.heap.size + 1) (by omega)
        have hlt1 : w.heap.size + 2 ≤ w1.heap.size := Nat.le_trans (by simp; omega) hgrow1.size
        have hcP1 := grown_cell hgrow1 (p := ⟨w.heap.size, 0, none⟩) ((World.cell?_alloc_past (.cells #[.int .u8 (lgR sub A B p n : Int)] 5) w.heap.size 0 hlt0).trans hcP2) hne0
        have hfP1 := grown_frozen hgrow1 (p := ⟨w.heap.size, 0, none⟩) (by simp; omega) ((World.frozen?_alloc_past (.cells #[.int .u8 (lgR sub A B p n : Int)] 5) w.heap.size 0 hlt0).trans hfP2) hne0
        have hcS1 := grown_cell hgrow1 (p := ⟨w.heap.size + 1, 0, none⟩) ((World.cell?_alloc_past (.cells #[.int .u8 (lgR sub A B p n : Int)] 5) (w.heap.size + 1) 0 hlt2).trans hcS2) hne1
        have hb1 := (Bl.alloc hbel2 _).grown hgrow1 (by simp; omega) (fun k hk => by have := (hown2.lt k hk).1; omega)
        go_wp2_with fail
        go_roundw
        case rel => exact ⟨n + 1, by omega, by go_num, by rw [lgO_succ]; exact hown1, hcP1, hfP1, hcS1, hlt1, hb1⟩
        case measure => simp [intOf]; omega
    · obtain rfl : n = la := by omega
      obtain ⟨o, c, rfl, hnums⟩ := nums_of_own hown
      have hnums' : NumsAt wr .u8 o n (fun i => (lgR sub A B p i : Int)) := fun i hi => by
        have := hnums i hi
        dsimp only at this ⊢
        rwa [lgO_get sub A B p n i hi] at this
      go_wp2_with fail
      refine Cl.p (adBehind_calls (lgP sub A B p n) w.heap.size _ hcP) ?_
      go_wp2_with fail
      go_ret3
      exact ⟨_, _, rfl, hnums', hbel⟩
end Go.Proofs.YtplobngbjpgcgaaGreatDoor
end
