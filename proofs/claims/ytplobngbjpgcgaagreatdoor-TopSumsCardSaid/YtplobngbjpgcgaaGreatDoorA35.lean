/-
  The texts Co11, Sm1 of the proof of TopSums, as one file (they are merged by a program).
-/
import Derived.Test.YtplobngbjpgcgaaGreatDoorA32
import Derived.Test.YtplobngbjpgcgaaGreatDoorA34
section
/-
  gannettop.core: a core with all pages in work memory, where code lies.
-/
namespace Go.Proofs.YtplobngbjpgcgaaGreatDoor
set_option linter.unusedSimpArgs false
set_option linter.unusedVariables false
set_option maxRecDepth 10000
open Go.RowKit Pl
theorem set8 (w : World) (b : Nat) (v : Value) : w.setCells b 6 [v, v, v, v, v, v, v, v] = (((((((w.setCell ⟨b, 6, none⟩ v).setCell ⟨b, 7, none⟩ v).setCell ⟨b, 8, none⟩ v).setCell ⟨b, 9, none⟩ v).setCell ⟨b, 10, none⟩ v).setCell ⟨b, 11, none⟩ v).setCell ⟨b, 12, none⟩ v).setCell ⟨b, 13, none⟩ v := rfl
theorem Blk.there {w : World} {g : Nat} {t : TypeId} {cs : Array Value} (h : Blk w g t cs) (o n : Nat) (hn : o + n ≤ cs.size) : w.there g o n := fun j hj => ⟨by
  rw [Blk.cell h (o + j), Array.getElem?_eq_getElem (by omega)]; rfl, Blk.frozen h _⟩
theorem Only.setCells {b : Nat} : ∀ (vs : List Value) (o : Nat) (u w : World), Only (fun j => j = b) u w → Only (fun j => j = b) u (w.setCells b o vs)
  | [], _, _, _, h => h
  | v :: r, o, u, w, h => Only.setCells r (o + 1) u (w.setCell ⟨b, o, none⟩ v) (h.setCell ⟨b, o, none⟩ rfl v)
set_option maxRecDepth 100000 in
set_option maxHeartbeats 8000000 in
theorem core_calls (ap oc : Option Addr) (cp L cc : Nat) (At : Nat → Int) (O : Nat → Option Addr) (Ln Cp : Nat → Nat) (By : Nat → Nat → Int) (cd : Nat → Int) (M : Nat → Nat) (w : World)
    (hft : ∀ i, i < 2 → Fits 8192 (At i) (Ln i)) (hL : L ≤ 1000) (hP : PieB w ap 2 At O Ln Cp By w.heap.size) (hC : NumsB w .u8 oc L cd w.heap.size)
    (hM : layF (fillF (fun _ => 0) At Ln By 2) 1000 L cd = fun i => (M i : Int)) :
    Calls Tryz.prog 5 #[.agg #[.int .u8 0, .int .u8 0, .int .u8 0, .int .u8 0, .int .u8 0, .int .u16 0, .int .u8 0, .int .u8 0, .int .u8 0, .int .u8 0, .int .u8 0, .int .u8 0, .int .u8 0, .int .u8 0, .int .u8 0, .bool false], .int .u16 1000, .slice oc L cc, .slice ap 2 cp] w fun e w' => ∃ D A base c, e = .returned (.tuple #[.pointer (some ⟨c, 0, none⟩), .pointer (some ⟨A.b, 0, none⟩)]) ∧ Sys w' D A base c 0 0 1000 0 24576 M ∧ w.heap.size ≤ D.l ∧ Below w.heap.size w w' := by
  have hs : Blk (w.alloc (.cells #[.int .u8 0, .int .u8 0, .int .u8 0, .int .u8 0, .int .u8 0, .int .u16 0, .int .u8 0, .int .u8 0, .int .u8 0, .int .u8 0, .int .u8 0, .int .u8 0, .int .u8 0, .int .u8 0, .int .u8 0, .bool false] 32)) w.heap.size 32 #[.int .u8 0, .int .u8 0, .int .u8 0, .int .u8 0, .int .u8 0, .int .u16 0, .int .u8 0, .int .u8 0, .int .u8 0, .int .u8 0, .int .u8 0, .int .u8 0, .int .u8 0, .int .u8 0, .int .u8 0, .bool false] := Blk.new _ _ _
  have hb0 : Below w.heap.size w (w.alloc (.cells #[.int .u8 0, .int .u8 0, .int .u8 0, .int .u8 0, .int .u8 0, .int .u16 0, .int .u8 0, .int .u8 0, .int .u8 0, .int .u8 0, .int .u8 0, .int .u8 0, .int .u8 0, .int .u8 0, .int .u8 0, .bool false] 32)) := Bl.alloc (Below.refl _ _) _
  go_enter Tryz.func5, Tryz.ntmps5
  go_wp2_with fail
  generalize w.alloc (.cells #[.int .u8 0, .int .u8 0, .int .u8 0, .int .u8 0, .int .u8 0, .int .u16 0, .int .u8 0, .int .u8 0, .int .u8 0, .int .u8 0, .int .u8 0, .int .u8 0, .int .u8 0, .int .u8 0, .int .u8 0, .bool false] 32) = w1 at *
  obtain ⟨gs, hgs⟩ : ∃ x, w.heap.size = x := ⟨_, rfl⟩
  rw [hgs] at hs hb0 hP hC ⊢
  have HG := hide hgs
  refine (devNew_calls w1).mono ?_
  rintro e w2 ⟨D, rfl, hD2, hl0, hb2⟩
  have hs2 := Blk.below hs hb2 hs.lt
  have hb02 := hb0.trans (hb2.mono (by have := hs.lt; omega))
  have hgl : gs < D.l := Nat.lt_of_lt_of_le hs.lt hl0
  have hz : Blk (w2.alloc (.cells #[.int .i64 0, .int .i64 0] 48)) w2.heap.size 48 #[.int .i64 0, .int .i64 0] := Blk.new _ _ _
  have hba : Below w2.heap.size w2 (w2.alloc (.cells #[.int .i64 0, .int .i64 0] 48)) := Bl.alloc (Below.refl _ _) _
  have hD3 := hD2.low hba
  have hs3 := Blk.below hs2 hba hs2.lt
  have hb03 := hb02.trans (hba.mono (by have := hs2.lt; omega))
  clear hs hb0 hD2 hl0 hb2 hs2 hb02 hba hgs
  go_wp2_with (refine wpList_store_row rfl 48 _ _ rfl w2.heap.size (fltA (0, 0)) rfl rfl 48 _ hz (by kernel_rfl) rfl (by kernel_rfl) ?_; rw [show fltA (0, 0) = #[.int .i64 0, .int .i64 0] from rfl, setRow_same hz])
  clear hz
  generalize w2.alloc (.cells #[.int .i64 0, .int .i64 0] 48) = w3 at *
  generalize w2.heap.size = gf at *
  refine (bsNew_calls D w3 hD3).mono ?_
  rintro e w4 ⟨A, rfl, hB4, hb4⟩
  have hs4 := Blk.below hs3 hb4 hs3.lt
  have hb04 := hb03.trans (hb4.mono (by have := hs3.lt; omega))
  obtain ⟨base, hbase⟩ : ∃ x, w4.heap.size = x := ⟨_, rfl⟩
  rw [hbase] at hB4
  have ho := hB4.o
  have hlp := hB4.lp
  have hP4 : ∀ W, Only (fun j => j = A.g) w4 W → PieB W ap 2 At O Ln Cp By W.heap.size := fun W h => ((hP.below hb04 (Nat.le_refl _)).only h (fun j hj e => by have e : j = A.g := e; omega)).mono (by have := h.size; omega)
  have hC4 : ∀ W, Only (fun j => j = A.g) w4 W → NumsB W .u8 oc L cd W.heap.size := fun W h => ((hC.below hb04 (Nat.le_refl _)).only h (fun j hj e => by have e : j = A.g := e; omega)).mono (by have := h.size; omega)
  clear hD3 hs3 hb03 hb4 hbase
  go_wp2_with fail
  refine (bsFill_calls D A base 0 0 0 0 0 5000 0 (fun _ => 0) (.slice none 0 0) ap 2 cp At O Ln Cp By w4 (by omega) (by omega) hft hB4 hP4).mono ?_
  rintro e w5 ⟨rfl, hB5, hO5⟩
  have hs5 := Blk.only hs4 hO5 (fun e => by have e : gs = A.g := e; omega)
  have hb05 := hb04.trans (hO5.below (by have := hs4.lt; omega) (fun k e => by have e : k = A.g := e; omega))
  have hX : Blk (w5.alloc (.cells #[.int .i64 1000, .slice oc L cc] 34)) w5.heap.size 34 #[.int .i64 1000, .slice oc L cc] := Blk.new _ _ _
  have hba : Below w5.heap.size w5 (w5.alloc (.cells #[.int .i64 1000, .slice oc L cc] 34)) := Bl.alloc (Below.refl _ _) _
  have hB6 := hB5.low hba
  have hs6 := Blk.below hs5 hba hs5.lt
  have hb06 := hb05.trans (hba.mono (by have := hs5.lt; omega))
  have hO6 := hO5.trans (Only.of hba)
  have hgx : w5.heap.size ≠ A.g := by have := hB5.o; omega
  clear hB4 hP hC hP4 hb04 hs4 hB5 hO5 hs5 hb05 hba
  go_wp2_with fail
  generalize w5.alloc (.cells #[.int .i64 1000, .slice oc L cc] 34) = w6 at *
  generalize w5.heap.size = gx at *
  have hP6 : ∀ W, Only (fun j => j = A.g) w6 W → PieB W (some ⟨gx, 0, none⟩) 1 (fun _ => 1000) (fun _ => oc) (fun _ => L) (fun _ => cc) (fun _ => cd) W.heap.size := fun W h i hi => by
    have hX2 := Blk.only hX h hgx
    obtain rfl : i = 0 := by omega
    exact ⟨gx, 0, rfl, hX2.lt, Blk.cell hX2 0, Blk.cell hX2 1, hC4 W (hO6.trans h)⟩
  refine (bsFill_calls D A base (0 + 8192 * 2) 0 0 0 0 5000 0 (fillF (fun _ => 0) At Ln By 2) (.slice none 0 0) (some ⟨gx, 0, none⟩) 1 1 (fun _ => 1000) (fun _ => oc) (fun _ => L) (fun _ => cc) (fun _ => cd) w6 (by omega) (by omega) (fun i _ => ⟨by omega, by omega⟩) hB6 hP6).mono ?_
  rintro e w7 ⟨rfl, hB7, hO7⟩
  have hF7 : fillF (fillF (fun _ => 0) At Ln By 2) (fun _ => 1000) (fun _ => L) (fun _ => cd) 1 = fun i => (M i : Int) := hM
  rw [hF7] at hB7
  have hs7 := Blk.only hs6 hO7 (fun e => by have e : gs = A.g := e; omega)
  have hb07 := hb06.trans (hO7.below (by have := hs6.lt; omega) (fun k e => by have e : k = A.g := e; omega))
  clear hF7 hM hC4 hX hB6 hs6 hb06 hO6 hgx hP6 hO7 hft
  -- the state is set up
  have hs8 : Blk (w7.setCells gs 6 [.int .u8 248, .int .u8 248, .int .u8 248, .int .u8 248, .int .u8 248, .int .u8 248, .int .u8 248, .int .u8 248]) gs 32 #[.int .u8 0, .int .u8 0, .int .u8 0, .int .u8 0, .int .u8 0, .int .u16 0, .int .u8 248, .int .u8 248, .int .u8 248, .int .u8 248, .int .u8 248, .int .u8 248, .int .u8 248, .int .u8 248, .int .u8 0, .bool false] := by
    rw [set8]
    exact Blk.set_ (Blk.set_ (Blk.set_ (Blk.set_ (Blk.set_ (Blk.set_ (Blk.set_ (Blk.set_ hs7 6 _) 7 _) 8 _) 9 _) 10 _) 11 _) 12 _) 13 _
  have hO8 : Only (fun j => j = gs) w7 (w7.setCells gs 6 [.int .u8 248, .int .u8 248, .int .u8 248, .int .u8 248, .int .u8 248, .int .u8 248, .int .u8 248, .int .u8 248]) := Only.setCells _ _ _ _ (Only.refl _ _)
  have hth := Blk.there hs7 6 8 (by decide)
  have hsz7 : gs < w7.heap.size := hs7.lt
  obtain ⟨w8, hw8⟩ : ∃ W, W = w7.setCells gs 6 [.int .u8 248, .int .u8 248, .int .u8 248, .int .u8 248, .int .u8 248, .int .u8 248, .int .u8 248, .int .u8 248] := ⟨_, rfl⟩
  rw [← hw8] at hs8 hO8
  have c5 : w8.cell? ⟨gs, 5, none⟩ = some (.int .u16 0) := Blk.cell hs8 5
  have f5 : w8.frozen? ⟨gs, 5, none⟩ = false := Blk.frozen hs8 5
  have hs9 : Blk (w8.setCell ⟨gs, 5, none⟩ (.int .u16 1000)) gs 32 #[.int .u8 0, .int .u8 0, .int .u8 0, .int .u8 0, .int .u8 0, .int .u16 1000, .int .u8 248, .int .u8 248, .int .u8 248, .int .u8 248, .int .u8 248, .int .u8 248, .int .u8 248, .int .u8 248, .int .u8 0, .bool false] := Blk.set_ hs8 5 _
  have hO9 : Only (fun j => j = gs) w7 (w8.setCell ⟨gs, 5, none⟩ (.int .u16 1000)) := hO8.setCell ⟨gs, 5, none⟩ rfl _
  have HW := hide hw8
  clear hw8
  go_wp2_with (first
    | (refine wpList_store_mid rfl 30 _ _ rfl gs 6 #[.int .u8 248, .int .u8 248, .int .u8 248, .int .u8 248, .int .u8 248, .int .u8 248, .int .u8 248, .int .u8 248] rfl rfl hth (by kernel_rfl) (by kernel_rfl) ?_; rw [show (#[.int .u8 248, .int .u8 248, .int .u8 248, .int .u8 248, .int .u8 248, .int .u8 248, .int .u8 248, .int .u8 248] : Array Value).toList = [.int .u8 248, .int .u8 248, .int .u8 248, .int .u8 248, .int .u8 248, .int .u8 248, .int .u8 248, .int .u8 248] from rfl, ← HW.out])
    | (refine wpList_load_row rfl 32 _ rfl gs rfl _ #[.int .u8 0, .int .u8 0, .int .u8 0, .int .u8 0, .int .u8 0, .int .u16 1000, .int .u8 248, .int .u8 248, .int .u8 248, .int .u8 248, .int .u8 248, .int .u8 248, .int .u8 248, .int .u8 248, .int .u8 0, .bool false] (0, 0) _ hs9 Tryz.underlying32 rfl (by kernel_rfl) ?_))
  generalize w8.setCell ⟨gs, 5, none⟩ (.int .u16 1000) = w9 at *
  clear HW c5 f5 hth hs8 hO8
  have hB9 : BusW w9 D A base 0 0 5000 0 (0 + 8192 * 2 + 8192 * 1) 0 0 (fun i => (M i : Int)) (.slice none 0 0) := by
    have ho7 := hB7.o
    obtain ⟨rows, hT⟩ := hB7.T
    have hng : ∀ k, gs < k → ¬ (fun j => j = gs) k := fun k h e => by have e : k = gs := e; omega
    have hl7 := hB7.lp
    exact ⟨Blk.only hB7.B hO9 (hng _ (by omega)), Blk.only hB7.C hO9 (hng _ (by omega)), hB7.R.only hO9 (hng _ (by omega)) (hng _ (by omega)), hB7.Dv.only hO9 (fun k e => Or.inl (by have e : k = gs := e; omega)), ⟨rows, own_only hT hO9 (fun k e => by have e : k = gs := e; omega)⟩, ho7.1, ho7.2.1, ho7.2.2.1, ho7.2.2.2.1, ho7.2.2.2.2.1, ho7.2.2.2.2.2.1, Nat.le_trans ho7.2.2.2.2.2.2 hO9.size⟩
  have hb09 : Below gs w w9 := hb07.trans (hO9.below (by omega) (fun k e => by have e : k = gs := e; omega))
  clear hB7 hO9 hb07 hs9
  refine (isaNew_calls D A base (0 + 8192 * 2 + 8192 * 1) 0 0 0 0 1000 0 0 5000 0 (fun i => (M i : Int)) (.slice none 0 0) w9 hB9).mono ?_
  rintro e w10 ⟨c, rfl, hC10, hcge, hb10⟩
  have hB10 := hB9.low hb10
  have ho10 := hB10.o
  have hb010 : Below gs w w10 := hb09.trans (hb10.mono (by have := hb09.size; have := hB9.o; omega))
  go_wp2_with fail
  go_ret2
  rw [HG.out]
  refine ⟨D, A, base, c, rfl, ⟨⟨0, .slice none 0 0, hB10, by omega, by omega⟩, hC10, ?_⟩, by omega, hb010⟩
  have := hB9.o
  omega
end Go.Proofs.YtplobngbjpgcgaaGreatDoor
end
section
/-
  Plain: memory with a program and two numbers; the program as a list.
-/
namespace Go.Proofs.YtplobngbjpgcgaaGreatDoor
set_option linter.unusedSimpArgs false
set_option linter.unusedVariables false
set_option maxRecDepth 10000
open Go.RowKit Pl
def mem0 (A B : Nat → Nat) (dec : Bool) (k : Nat) : Nat → Nat := fun x => if 1000 ≤ x ∧ x < 1000 + (2 + 6 * k) then cdB dec (x - 1000) else if 32 ≤ x ∧ x < 32 + 12 then B (x - 32) else if 16 ≤ x ∧ x < 16 + 12 then A (x - 16) else 0
theorem cdB_lt (dec : Bool) (k i : Nat) (hk : k ≤ 12) (hi : i < 2 + 6 * k) : cdB dec i < 256 := by
  unfold cdB
  have h : (i - 2) / 6 < 12 := by omega
  cases dec <;> simp <;> (repeat' split) <;> omega
theorem mem0_laid {A B : Nat → Nat} (dec : Bool) {k : Nat} (hk : k ≤ 12) (hA : ∀ i, A i < 256) (hB : ∀ i, B i < 256) : Laid (mem0 A B dec k) A B dec k := by
  refine ⟨fun i hi => ?_, fun i hi => ?_, fun i hi => ?_, fun i => ?_⟩
  · unfold mem0
    rw [if_neg (by omega), if_neg (by omega), if_pos (by omega), show 16 + i - 16 = i by omega]
  · unfold mem0
    rw [if_neg (by omega), if_pos (by omega), show 32 + i - 32 = i by omega]
  · unfold mem0
    rw [if_pos (by omega), show 1000 + i - 1000 = i by omega]
  · unfold mem0
    split
    · exact cdB_lt dec k _ hk (by omega)
    · split
      · exact hB _
      · split
        · exact hA _
        · omega
def atP (i : Nat) : Int := if i = 0 then 16 else 32
def byP (A B : Nat → Nat) (i j : Nat) : Int := if i = 0 then (A j : Int) else (B j : Int)
theorem mem0_fill (A B : Nat → Nat) (dec : Bool) (k : Nat) : layF (fillF (fun _ => 0) atP (fun _ => 12) (byP A B) 2) 1000 (2 + 6 * k) (fun i => (cdB dec i : Int)) = fun i => (mem0 A B dec k i : Int) := by
  funext x
  have h1 : fillF (fun _ => 0) atP (fun _ => 12) (byP A B) 2 = layF (layF (fun _ => 0) 16 12 (fun j => (A j : Int))) 32 12 (fun j => (B j : Int)) := rfl
  rw [h1]
  unfold layF mem0
  by_cases h : 1000 ≤ x ∧ x < 1000 + (2 + 6 * k)
  · rw [if_pos h, if_pos h]
  · rw [if_neg h, if_neg h]
    by_cases h2 : 32 ≤ x ∧ x < 32 + 12
    · rw [if_pos h2, if_pos h2]
    · rw [if_neg h2, if_neg h2]
      by_cases h3 : 16 ≤ x ∧ x < 16 + 12
      · rw [if_pos h3, if_pos h3]
      · rw [if_neg h3, if_neg h3]; rfl
/-- The program's first bytes, as a list. -/
def cdL (dec : Bool) (m : Nat) : List Value := (List.range m).map fun i => Value.int .u8 (cdB dec i : Int)
theorem cdL_get (dec : Bool) (m i : Nat) (h : i < m) : (cdL dec m)[i]? = some (.int .u8 (cdB dec i : Int)) := by simp [cdL, h]
theorem cdB_at (dec : Bool) (j r : Nat) (hr : r < 6) : cdB dec (2 + 6 * j + r) = if r = 0 then 165 else if r = 1 then 16 + j else if r = 2 then 101 else if r = 3 then 32 + j else if r = 4 then 133 else 48 + j := by
  unfold cdB
  rw [if_neg (by omega), if_neg (by omega), show (2 + 6 * j + r - 2) % 6 = r by omega, show (2 + 6 * j + r - 2) / 6 = j by omega]
theorem cdL_succ (dec : Bool) (j : Nat) : cdL dec (2 + 6 * (j + 1)) = cdL dec (2 + 6 * j) ++ [.int .u8 165, .int .u8 (16 + (j : Int)), .int .u8 101, .int .u8 (32 + (j : Int)), .int .u8 133, .int .u8 (48 + (j : Int))] := by
  have e0 : cdB dec (2 + 6 * j) = 165 := cdB_at dec j 0 (by omega)
  have e1 : cdB dec (2 + 6 * j + 0 + 1) = 16 + j := cdB_at dec j 1 (by omega)
  have e2 : cdB dec (2 + 6 * j + 0 + 1 + 1) = 101 := cdB_at dec j 2 (by omega)
  have e3 : cdB dec (2 + 6 * j + 0 + 1 + 1 + 1) = 32 + j := cdB_at dec j 3 (by omega)
  have e4 : cdB dec (2 + 6 * j + 0 + 1 + 1 + 1 + 1) = 133 := cdB_at dec j 4 (by omega)
  have e5 : cdB dec (2 + 6 * j + 0 + 1 + 1 + 1 + 1 + 1) = 48 + j := cdB_at dec j 5 (by omega)
  unfold cdL
  rw [show 2 + 6 * (j + 1) = 2 + 6 * j + 5 + 1 by omega, List.range_succ, show 2 + 6 * j + 5 = 2 + 6 * j + 4 + 1 from rfl, List.range_succ, show 2 + 6 * j + 4 = 2 + 6 * j + 3 + 1 from rfl, List.range_succ, show 2 + 6 * j + 3 = 2 + 6 * j + 2 + 1 from rfl, List.range_succ, show 2 + 6 * j + 2 = 2 + 6 * j + 1 + 1 from rfl, List.range_succ, show 2 + 6 * j + 1 = 2 + 6 * j + 0 + 1 from rfl, List.range_succ]
  simp only [List.map_append, List.map_cons, List.map_nil, List.append_assoc, List.cons_append, List.nil_append]
  rw [Nat.add_zero] at e1 e2 e3 e4 e5
  simp only [Nat.add_zero, e0, e1, e2, e3, e4, e5]
  rfl
end Go.Proofs.YtplobngbjpgcgaaGreatDoor
end
