/-
  gannetlaw18: play.
-/
import Derived.Test.YtjaibacpojpfhaaL18c
namespace Go.Proofs.Ytjaibacpojpfhaa
open Go.RowKit Pl

/-- Steps, in blocks below B. -/
def SteB (w : World) (a : Option Addr) (n : Nat) (K M V : Nat → Nat) (B : Nat) : Prop :=
  ∀ i, i < n → ∃ b off, a = some ⟨b, off, none⟩ ∧ b < B ∧ w.cell? ⟨b, off + i * 3, none⟩ = some (.int .u8 (K i : Int)) ∧ w.cell? ⟨b, off + i * 3 + 1, none⟩ = some (.int .u8 (M i : Int)) ∧ w.cell? ⟨b, off + i * 3 + 2, none⟩ = some (.int .u8 (V i : Int)) ∧ K i < 256 ∧ M i < 256
theorem SteB.only {S : Nat → Prop} {w w' : World} {a : Option Addr} {n : Nat} {K M V : Nat → Nat} {B : Nat} (h : SteB w a n K M V B) (ho : Only S w w') (hs : ∀ j, j < B → ¬ S j) : SteB w' a n K M V B := fun i hi => by
  obtain ⟨b, off, ha, hlt, h0, h1, h2, r⟩ := h i hi
  have e := ho.block b (cell_lt h0) (hs b hlt)
  exact ⟨b, off, ha, hlt, (World.cell?_of_block e).trans h0, (World.cell?_of_block e).trans h1, (World.cell?_of_block e).trans h2, r⟩
theorem SteB.mono {w : World} {a : Option Addr} {n : Nat} {K M V : Nat → Nat} {B B' : Nat} (h : SteB w a n K M V B) (hb : B ≤ B') : SteB w a n K M V B' := fun i hi => by
  obtain ⟨b, off, ha, hlt, r⟩ := h i hi
  exact ⟨b, off, ha, by omega, r⟩
theorem RM.nine {w : World} {h : Nat} {A : Nat → Nat} {l : Nat} (hR : RM w h A l) : w.cell? ⟨h, 0, none⟩ = some (.int .u8 (A 0 : Int)) ∧ w.cell? ⟨h, 1, none⟩ = some (.int .u8 (A 1 : Int)) ∧ w.cell? ⟨h, 2, none⟩ = some (.int .u8 (A 2 : Int)) ∧ w.cell? ⟨h, 3, none⟩ = some (.int .u8 (A 3 : Int)) ∧ w.cell? ⟨h, 4, none⟩ = some (.int .u8 (A 4 : Int)) ∧ w.cell? ⟨h, 5, none⟩ = some (.int .u8 (A 5 : Int)) ∧ w.cell? ⟨h, 6, none⟩ = some (.int .u8 (A 6 : Int)) ∧ w.cell? ⟨h, 7, none⟩ = some (.int .u8 (A 7 : Int)) ∧ w.cell? ⟨h, 8, none⟩ = some (.int .u8 (l : Int)) :=
  ⟨hR.get 0 (by omega), hR.get 1 (by omega), hR.get 2 (by omega), hR.get 3 (by omega), hR.get 4 (by omega), hR.get 5 (by omega), hR.get 6 (by omega), hR.get 7 (by omega), Blk.cell hR 8⟩
theorem neBk (A : Nat → Nat) (W : World) : (binOp .neq 22 (.agg (bk8 A)) (.agg #[.int .u8 (A 0 : Int), .int .u8 (A 1 : Int), .int .u8 (A 2 : Int), .int .u8 (A 3 : Int), .int .u8 (A 4 : Int), .int .u8 (A 5 : Int), .int .u8 (A 6 : Int), .int .u8 (A 7 : Int)])).run Try.prog W = .ok (.bool false) W := by
  have h := run_neq_ints 22 5 8 .u8 Try.underlying22 Try.underlying5 (fun _ => by kernel_rfl) (fun i => (A i : Int)) (fun i => (A i : Int)) W
  have e : ((List.range 8).all fun i => ((A i : Int) == (A i : Int))) = true := by simp
  rw [e] at h
  exact h
set_option maxRecDepth 100000 in
set_option maxHeartbeats 16000000 in
theorem play18_calls (g h : Nat) (a : Option Addr) (n c l : Nat) (K M V A : Nat → Nat) (w : World) (hn : n ≤ 200) (hgh : g < h) (hM : MB w g A l) (hR : RM w h A l) (hS : SteB w a n K M V g) :
    Calls Try.prog 9 #[.pointer (some ⟨g, 0, none⟩), .pointer (some ⟨h, 0, none⟩), .slice a n c] w
      fun e w' => e = .returned (.bool true) ∧ ∃ A' l', MB w' g A' l' ∧ RM w' h A' l' ∧ Only (fun b => b = g ∨ b = h) w w' := by
  go_enter Try.func9, Try.ntmps9
  go_wp2_with fail
  go_loopw [7] (fun i wr => ∃ (j : Nat) (A' : Nat → Nat) (l' : Nat), j ≤ n ∧ i = .int .i64 (j : Int) ∧ MB wr g A' l' ∧ RM wr h A' l' ∧ Only (fun b => b = g ∨ b = h) w wr) (fun i _ => n - (intOf i).toNat)
  case atStart => exact ⟨0, A, l, by omega, rfl, hM, hR, Only.refl _ _⟩
  case round =>
    obtain ⟨j, B, q, hj, rfl, hMr, hRr, hor⟩ := hrel
    by_cases hjn : j < n
    · have hjn' : (j : Int) < (n : Int) := by omega
      obtain ⟨b0, of0, rfl, hlt, x0, x1, x2, hk, hm⟩ := (hS.only hor (fun b hb e => by omega)) j hjn
      generalize K j = kk at *
      generalize M j = mm at *
      generalize V j = vv at *
      have hkk : kk % 3 = 0 ∨ kk % 3 = 1 ∨ kk % 3 = 2 := by omega
      rcases hkk with hkk | hkk | hkk
      · -- a byte is moved to pages
        have e1 : (kk : Int) % 3 = 0 := by omega
        have e2 : (kk : Int).tmod 3 = 0 := by rw [Int.tmod_eq_emod_of_nonneg (by omega)]; omega
        clear hkk
        have y1 : wr.drew.cell? ⟨b0, of0 + j * 3 + 1, none⟩ = some (.int .u8 (mm : Int)) := x1
        have y2 : wr.drew.cell? ⟨b0, of0 + j * 3 + 2, none⟩ = some (.int .u8 (vv : Int)) := x2
        have hMrd : MB wr.drew g B q := hMr
        go_wp2_with fail
        go_region_held3 (fun w' => w'.cell? ⟨b0, of0 + j * 3 + 1, none⟩ = some (.int .u8 (mm : Int)) ∧ w'.cell? ⟨b0, of0 + j * 3 + 2, none⟩ = some (.int .u8 (vv : Int))) (first | exact ⟨z1, z2⟩ | exact ⟨y1, y2⟩)
          (first | (go_at_call 17; refine (mmSet_calls g mm vv q B wr.drew hm hMrd).mono ?_; rintro e w5 ⟨⟨_, rfl⟩, hM5, ho5⟩; have z1 : w5.cell? ⟨b0, of0 + j * 3 + 1, none⟩ = some (.int .u8 (mm : Int)) := (World.cell?_of_block (ho5.block b0 (cell_lt y1) (by omega))).trans y1; have z2 : w5.cell? ⟨b0, of0 + j * 3 + 2, none⟩ = some (.int .u8 (vv : Int)) := (World.cell?_of_block (ho5.block b0 (cell_lt y2) (by omega))).trans y2))
        have hR5 : RM w5 h B q := Blk.only (w := wr.drew) hRr ho5 (by omega)
        have u1 : w5.drew.cell? ⟨b0, of0 + j * 3 + 1, none⟩ = some (.int .u8 (mm : Int)) := z1
        have u2 : w5.drew.cell? ⟨b0, of0 + j * 3 + 2, none⟩ = some (.int .u8 (vv : Int)) := z2
        have hR5d : RM w5.drew h B q := hR5
        go_wp2_with fail
        go_region_held3 (fun w' => w'.cell? ⟨b0, of0 + j * 3 + 1, none⟩ = some (.int .u8 (mm : Int)) ∧ w'.cell? ⟨b0, of0 + j * 3 + 2, none⟩ = some (.int .u8 (vv : Int))) (first | exact ⟨t1, t2⟩ | exact ⟨u1, u2⟩)
          (first | (go_at_call 27; refine (r18Set_calls h mm vv q B w5.drew hm hR5d).mono ?_; rintro e w6 ⟨⟨_, rfl⟩, hR6, ho6⟩; have t1 : w6.cell? ⟨b0, of0 + j * 3 + 1, none⟩ = some (.int .u8 (mm : Int)) := (World.cell?_of_block (ho6.block b0 (cell_lt u1) (by omega))).trans u1; have t2 : w6.cell? ⟨b0, of0 + j * 3 + 2, none⟩ = some (.int .u8 (vv : Int)) := (World.cell?_of_block (ho6.block b0 (cell_lt u2) (by omega))).trans u2))
        have hM6 : MB w6 g (setK mm vv B) vv := Blk.only (w := w5.drew) hM5 ho6 (by omega)
        have hMn : MB w6 g (setK mm vv B) (vv) := hM6
        have hRn : RM w6 h (setK mm vv B) (vv) := hR6
        have hon : Only (fun b => b = g ∨ b = h) w w6 := (((hor.drew).trans (ho5.mono fun _ _ e => Or.inl e)).drew).trans (ho6.mono fun _ _ e => Or.inr e)
        generalize setK mm vv B = NA at *
        have hMd : MB w6.drew g NA vv := hMn
        have hRd : RM w6.drew h NA vv := hRn
        have hne := neBk NA
        have zq : ((vv : Int) != (vv : Int)) = false := bne_self_eq_false _
        go_wp2_with fail
        go_region_held3 (fun w' => w'.cell? ⟨h, 0, none⟩ = some (.int .u8 (NA 0 : Int)) ∧ w'.cell? ⟨h, 1, none⟩ = some (.int .u8 (NA 1 : Int)) ∧ w'.cell? ⟨h, 2, none⟩ = some (.int .u8 (NA 2 : Int)) ∧ w'.cell? ⟨h, 3, none⟩ = some (.int .u8 (NA 3 : Int)) ∧ w'.cell? ⟨h, 4, none⟩ = some (.int .u8 (NA 4 : Int)) ∧ w'.cell? ⟨h, 5, none⟩ = some (.int .u8 (NA 5 : Int)) ∧ w'.cell? ⟨h, 6, none⟩ = some (.int .u8 (NA 6 : Int)) ∧ w'.cell? ⟨h, 7, none⟩ = some (.int .u8 (NA 7 : Int)) ∧ w'.cell? ⟨h, 8, none⟩ = some (.int .u8 (vv : Int))) (first | exact RM.nine hR9 | exact RM.nine hRd)
          (first | (go_at_call 11; refine Cl.m (mmBanks_calls g vv NA _ hMd) ?_; intro w9 hb9; have hM9 : MB w9 g NA vv := Blk.below hMd hb9 (Blk.lt hMd); have hR9 : RM w9 h NA vv := Blk.below hRd hb9 (Blk.lt hRd)) | (go_at_call 12; refine Cl.p (mmLast_calls g vv NA _ hM9) ?_))
        all_goals
          go_wp2_with fail
          go_roundw
          case rel => exact ⟨j + 1, NA, vv, by omega, by go_num, hM9, hR9, hon.drew.trans (Only.of hb9)⟩
          case measure => simp [intOf]; omega
      · -- a byte is moved from one
        have e1 : (kk : Int) % 3 = 1 := by omega
        have e2 : (kk : Int).tmod 3 = 1 := by rw [Int.tmod_eq_emod_of_nonneg (by omega)]; omega
        clear hkk
        have y1 : wr.drew.cell? ⟨b0, of0 + j * 3 + 1, none⟩ = some (.int .u8 (mm : Int)) := x1
        have hMrd : MB wr.drew g B q := hMr
        have zk : ((getK mm B q : Int) != (getK mm B q : Int)) = false := bne_self_eq_false _
        go_wp2_with fail
        go_region_held3 (fun w' => w'.cell? ⟨b0, of0 + j * 3 + 1, none⟩ = some (.int .u8 (mm : Int))) (first | exact t1 | exact z1 | exact y1)
          (first
          | (go_at_call 19; refine (mmGet_calls g mm q B wr.drew hm hMrd).mono ?_; rintro e w5 ⟨rfl, hM5, ho5⟩; have z1 : w5.cell? ⟨b0, of0 + j * 3 + 1, none⟩ = some (.int .u8 (mm : Int)) := (World.cell?_of_block (ho5.block b0 (cell_lt y1) (by omega))).trans y1; have hR5 : RM w5 h B q := Blk.only (w := wr.drew) hRr ho5 (by omega))
          | (go_at_call 28; refine (r18Get_calls h mm q B w5 hm hR5).mono ?_; rintro e w6 ⟨rfl, hR6, ho6⟩; have t1 : w6.cell? ⟨b0, of0 + j * 3 + 1, none⟩ = some (.int .u8 (mm : Int)) := (World.cell?_of_block (ho6.block b0 (cell_lt z1) (by omega))).trans z1))
        have hM6 : MB w6 g B (getK mm B q) := Blk.only (w := w5) hM5 ho6 (by omega)
        have hMn : MB w6 g (B) (getK mm B q) := hM6
        have hRn : RM w6 h (B) (getK mm B q) := hR6
        have hon : Only (fun b => b = g ∨ b = h) w w6 := ((hor.drew).trans (ho5.mono fun _ _ e => Or.inl e)).trans (ho6.mono fun _ _ e => Or.inr e)
        generalize getK mm B q = NLL at *
        have hMd : MB w6.drew g B NLL := hMn
        have hRd : RM w6.drew h B NLL := hRn
        have hne := neBk B
        have zq : ((NLL : Int) != (NLL : Int)) = false := bne_self_eq_false _
        go_wp2_with fail
        go_region_held3 (fun w' => w'.cell? ⟨h, 0, none⟩ = some (.int .u8 (B 0 : Int)) ∧ w'.cell? ⟨h, 1, none⟩ = some (.int .u8 (B 1 : Int)) ∧ w'.cell? ⟨h, 2, none⟩ = some (.int .u8 (B 2 : Int)) ∧ w'.cell? ⟨h, 3, none⟩ = some (.int .u8 (B 3 : Int)) ∧ w'.cell? ⟨h, 4, none⟩ = some (.int .u8 (B 4 : Int)) ∧ w'.cell? ⟨h, 5, none⟩ = some (.int .u8 (B 5 : Int)) ∧ w'.cell? ⟨h, 6, none⟩ = some (.int .u8 (B 6 : Int)) ∧ w'.cell? ⟨h, 7, none⟩ = some (.int .u8 (B 7 : Int)) ∧ w'.cell? ⟨h, 8, none⟩ = some (.int .u8 (NLL : Int))) (first | exact RM.nine hR9 | exact RM.nine hRd)
          (first | (go_at_call 11; refine Cl.m (mmBanks_calls g NLL B _ hMd) ?_; intro w9 hb9; have hM9 : MB w9 g B NLL := Blk.below hMd hb9 (Blk.lt hMd); have hR9 : RM w9 h B NLL := Blk.below hRd hb9 (Blk.lt hRd)) | (go_at_call 12; refine Cl.p (mmLast_calls g NLL B _ hM9) ?_))
        all_goals
          go_wp2_with fail
          go_roundw
          case rel => exact ⟨j + 1, B, NLL, by omega, by go_num, hM9, hR9, hon.drew.trans (Only.of hb9)⟩
          case measure => simp [intOf]; omega
      · -- a reset
        have e1 : (kk : Int) % 3 = 2 := by omega
        have e2 : (kk : Int).tmod 3 = 2 := by rw [Int.tmod_eq_emod_of_nonneg (by omega)]; omega
        clear hkk
        go_wp2_with fail
        refine (mmReset_calls g q B wr hMr).mono ?_
        rintro e w5 ⟨⟨_, rfl⟩, hM5, ho5⟩
        have hR5 : RM w5 h B q := Blk.only hRr ho5 (by omega)
        have u1 := RM.get hR5 7 (by omega)
        have u2 : w5.frozen? ⟨h, 7, none⟩ = false := Blk.frozen hR5 7
        have hM6 : MB (w5.setCell ⟨h, 7, none⟩ (.int .u8 0)) g (updn B 7 0) q := Blk.far hM5 (p := ⟨h, 7, none⟩) (by simp; omega) _
        have hR6 : RM (w5.setCell ⟨h, 7, none⟩ (.int .u8 0)) h (updn B 7 0) q := RM.set hR5 7 0 (by omega)
        have ho6 : Only (fun b => b = g ∨ b = h) w (w5.setCell ⟨h, 7, none⟩ (.int .u8 0)) := (hor.trans (ho5.mono fun _ _ e => Or.inl e)).setCell ⟨h, 7, none⟩ (Or.inr rfl) _
        have hMn : MB (w5.setCell ⟨h, 7, none⟩ (.int .u8 0)) g (updn B 7 0) (q) := hM6
        have hRn : RM (w5.setCell ⟨h, 7, none⟩ (.int .u8 0)) h (updn B 7 0) (q) := hR6
        have hon : Only (fun b => b = g ∨ b = h) w (w5.setCell ⟨h, 7, none⟩ (.int .u8 0)) := ho6
        generalize updn B 7 0 = NA at *
        have hMd : MB (w5.setCell ⟨h, 7, none⟩ (.int .u8 0)).drew g NA q := hMn
        have hRd : RM (w5.setCell ⟨h, 7, none⟩ (.int .u8 0)).drew h NA q := hRn
        have hne := neBk NA
        have zq : ((q : Int) != (q : Int)) = false := bne_self_eq_false _
        go_wp2_with fail
        go_region_held3 (fun w' => w'.cell? ⟨h, 0, none⟩ = some (.int .u8 (NA 0 : Int)) ∧ w'.cell? ⟨h, 1, none⟩ = some (.int .u8 (NA 1 : Int)) ∧ w'.cell? ⟨h, 2, none⟩ = some (.int .u8 (NA 2 : Int)) ∧ w'.cell? ⟨h, 3, none⟩ = some (.int .u8 (NA 3 : Int)) ∧ w'.cell? ⟨h, 4, none⟩ = some (.int .u8 (NA 4 : Int)) ∧ w'.cell? ⟨h, 5, none⟩ = some (.int .u8 (NA 5 : Int)) ∧ w'.cell? ⟨h, 6, none⟩ = some (.int .u8 (NA 6 : Int)) ∧ w'.cell? ⟨h, 7, none⟩ = some (.int .u8 (NA 7 : Int)) ∧ w'.cell? ⟨h, 8, none⟩ = some (.int .u8 (q : Int))) (first | exact RM.nine hR9 | exact RM.nine hRd)
          (first | (go_at_call 11; refine Cl.m (mmBanks_calls g q NA _ hMd) ?_; intro w9 hb9; have hM9 : MB w9 g NA q := Blk.below hMd hb9 (Blk.lt hMd); have hR9 : RM w9 h NA q := Blk.below hRd hb9 (Blk.lt hRd)) | (go_at_call 12; refine Cl.p (mmLast_calls g q NA _ hM9) ?_))
        all_goals
          go_wp2_with fail
          go_roundw
          case rel => exact ⟨j + 1, NA, q, by omega, by go_num, hM9, hR9, hon.drew.trans (Only.of hb9)⟩
          case measure => simp [intOf]; omega
    · obtain rfl : j = n := by omega
      go_wp2_with fail
      go_ret
      exact ⟨rfl, B, q, hMr, hRr, hor⟩
end Go.Proofs.Ytjaibacpojpfhaa
