/-
  The texts Sb1, Sb2 of the proof of TopSums, as one file (they are merged by a program).
-/
import Derived.Test.YtplobngbjpgcgaaGreatDoorA11
import Derived.Test.YtplobngbjpgcgaaGreatDoorA12
import Derived.Test.YtplobngbjpgcgaaGreatDoorA14
section
/-
  Package bus: what it holds; New, is, Left, begin.
-/
namespace Go.Proofs.YtplobngbjpgcgaaGreatDoor
set_option linter.unusedSimpArgs false
set_option linter.unusedVariables false
set_option maxRecDepth 10000
open Go.RowKit Pl
theorem own_keep {w w' : World} {base n size : Nat} {e : TypeId} {v : Value} {xs : List Value} (h : w.ownsRow base e size v n xs) (hk : ∀ g, v.ownBlock = some g → w'.heap[g]? = w.heap[g]?) : w'.ownsRow base e size v n xs := by
  obtain ⟨hl, h⟩ := h
  refine ⟨hl, ?_⟩
  rcases h with h | ⟨g, cap, cur, rfl, hb, hh, r⟩
  · exact Or.inl h
  · exact Or.inr ⟨g, cap, cur, rfl, hb, (hk g rfl).trans hh, r⟩
theorem own_blk {w : World} {base n size g : Nat} {e : TypeId} {v : Value} {xs : List Value} (h : w.ownsRow base e size v n xs) (hg : v.ownBlock = some g) : base ≤ g ∧ ∃ cur, w.heap[g]? = some (.cells cur e (0, 0)) := by
  rcases h.2 with ⟨rfl, _⟩ | ⟨g', cap, cur, rfl, hb, hh, _⟩
  · cases hg
  · cases hg
    exact ⟨hb, cur, hh⟩
theorem own_lt {w : World} {base n size g : Nat} {e : TypeId} {v : Value} {xs : List Value} (h : w.ownsRow base e size v n xs) (hg : v.ownBlock = some g) : g < w.heap.size := by
  obtain ⟨_, c, k⟩ := own_blk h hg
  rcases Nat.lt_or_ge g w.heap.size with hlt | hge
  · exact hlt
  · rw [Array.getElem?_eq_none hge] at k; cases k
/-- Where a bus lies. -/
structure BusA where
  b : Nat
  ck : Nat
  rm : Nat
  g : Nat
  ro : Option Addr
  rc : Nat
def bsRow (A : BusA) (D : DevA) (left : Int) (V : Value) : Array Value := #[.pointer (some ⟨A.ck, 0, none⟩), .slice A.ro 0 A.rc, .pointer (some ⟨A.rm, 0, none⟩), .pointer (some ⟨D.p, 0, none⟩), .int .i64 left, .bool false, V]
structure BusW (w : World) (D : DevA) (A : BusA) (base : Nat) (now cyc left np : Int) (nr k h : Nat) (F : Nat → Int) (V : Value) : Prop where
  B : Blk w A.b 75 (bsRow A D left V)
  C : CK w A.ck now cyc
  R : RamB w A.rm A.g nr F
  Dv : Dev w D 0 0 false 3072 0 false np h
  T : ∃ rows, w.ownsRow base 234 5 V k rows
  o : D.p < A.ck ∧ A.ck < A.rm ∧ A.ck < A.g ∧ A.rm < A.b ∧ A.g < A.b ∧ A.b < base ∧ base ≤ w.heap.size
/-- The blocks that a bus writes, but for what it tells. -/
def Bz (D : DevA) (base : Nat) (k : Nat) : Prop := D.l ≤ k ∧ k < base
section
variable {w w' : World} {D : DevA} {A : BusA} {base nr k h : Nat} {now cyc left np : Int} {F : Nat → Int} {V : Value}
theorem own_only {base n size : Nat} {e : TypeId} {v : Value} {xs : List Value} {S : Nat → Prop} (hT : w.ownsRow base e size v n xs) (ho : Only S w w') (hs : ∀ k, S k → k < base) : w'.ownsRow base e size v n xs :=
  own_keep hT (fun g hg => ho.block g (own_lt hT hg) (fun h => by have h1 := hs g h; have h2 := (own_blk hT hg).1; omega))
theorem own_low {base n size : Nat} {e : TypeId} {v : Value} {xs : List Value} (hT : w.ownsRow base e size v n xs) (hb : Below w.heap.size w w') : w'.ownsRow base e size v n xs :=
  own_keep hT (fun g hg => hb.block g (own_lt hT hg))
theorem BusW.low (x : BusW w D A base now cyc left np nr k h F V) (hb : Below w.heap.size w w') : BusW w' D A base now cyc left np nr k h F V := by
  obtain ⟨rows, hT⟩ := x.T
  obtain ⟨o1, o2, o3, o4, o5, o6, o7⟩ := x.o
  exact ⟨Blk.below x.B hb (Blk.lt x.B), Blk.below x.C hb (Blk.lt x.C), x.R.low hb, x.Dv.low hb, ⟨rows, own_low hT hb⟩, o1, o2, o3, o4, o5, o6, Nat.le_trans o7 hb.size⟩
theorem BusW.lp (x : BusW w D A base now cyc left np nr k h F V) : D.l < D.p := by have := x.Dv.ap; omega
theorem BusW.setC {now' cyc' : Int} (x : BusW w D A base now cyc left np nr k h F V) (y : CK w' A.ck now' cyc') (ho : Only (fun j => j = A.ck) w w') : BusW w' D A base now' cyc' left np nr k h F V := by
  obtain ⟨rows, hT⟩ := x.T
  obtain ⟨o1, o2, o3, o4, o5, o6, o7⟩ := x.o
  have hl := x.lp
  exact ⟨Blk.only x.B ho (by omega), y, x.R.only ho (by omega) (by omega), x.Dv.only ho (fun k e => Or.inr (by have e : k = A.ck := e; omega)), ⟨rows, own_only hT ho (fun k e => by have e : k = A.ck := e; omega)⟩, o1, o2, o3, o4, o5, o6, Nat.le_trans o7 ho.size⟩
theorem BusW.setD {np' : Int} {h' : Nat} (x : BusW w D A base now cyc left np nr k h F V) (y : Dev w' D 0 0 false 3072 0 false np' h') (ho : Only D.has w w') : BusW w' D A base now cyc left np' nr k h' F V := by
  obtain ⟨rows, hT⟩ := x.T
  obtain ⟨o1, o2, o3, o4, o5, o6, o7⟩ := x.o
  have hl := x.lp
  have n : ∀ k, D.p < k → ¬ D.has k := fun k h1 h2 => by have := h2.2; omega
  exact ⟨Blk.only x.B ho (n _ (by omega)), Blk.only x.C ho (n _ (by omega)), x.R.only ho (n _ (by omega)) (n _ (by omega)), y, ⟨rows, own_only hT ho (fun k e => by have := e.2; omega)⟩, o1, o2, o3, o4, o5, o6, Nat.le_trans o7 ho.size⟩
theorem BusW.setR {nr' : Nat} {F' : Nat → Int} (x : BusW w D A base now cyc left np nr k h F V) (y : RamB w' A.rm A.g nr' F') (ho : Only (fun j => j = A.g) w w') : BusW w' D A base now cyc left np nr' k h F' V := by
  obtain ⟨rows, hT⟩ := x.T
  obtain ⟨o1, o2, o3, o4, o5, o6, o7⟩ := x.o
  have hl := x.lp
  exact ⟨Blk.only x.B ho (by omega), Blk.only x.C ho (by omega), y, x.Dv.only ho (fun k e => Or.inr (by have e : k = A.g := e; omega)), ⟨rows, own_only hT ho (fun k e => by have e : k = A.g := e; omega)⟩, o1, o2, o3, o4, o5, o6, Nat.le_trans o7 ho.size⟩
theorem BusW.setB {left' : Int} (x : BusW w D A base now cyc left np nr k h F V) (y : Blk w' A.b 75 (bsRow A D left' V)) (ho : Only (fun j => j = A.b) w w') : BusW w' D A base now cyc left' np nr k h F V := by
  obtain ⟨rows, hT⟩ := x.T
  obtain ⟨o1, o2, o3, o4, o5, o6, o7⟩ := x.o
  have hl := x.lp
  exact ⟨y, Blk.only x.C ho (by omega), x.R.only ho (by omega) (by omega), x.Dv.only ho (fun k e => Or.inr (by have e : k = A.b := e; omega)), ⟨rows, own_only hT ho (fun k e => by have e : k = A.b := e; omega)⟩, o1, o2, o3, o4, o5, o6, Nat.le_trans o7 ho.size⟩
/-- One more is told. -/
theorem BusW.setT {V' : Value} {rows rows' : List Value} (x : BusW w D A base now cyc left np nr k h F V) (hT : w.ownsRow base 234 5 V k rows) (hg : w.grownBy w' V.ownBlock) (hT' : w'.ownsRow base 234 5 V' (k + 1) rows') :
    BusW (w'.setCell ⟨A.b, 6, none⟩ V') D A base now cyc left np nr (k + 1) h F V' ∧ Below base w w' := by
  obtain ⟨o1, o2, o3, o4, o5, o6, o7⟩ := x.o
  have hl := x.lp
  have hb : Below base w w' := (Below.refl base w).grown hg o7 (fun k hk => (own_blk hT hk).1)
  have hB : Blk w' A.b 75 (bsRow A D left V) := Blk.below x.B hb o6
  have ho : Only (fun j => j = A.b) w' (w'.setCell ⟨A.b, 6, none⟩ V') := Only.setCell (S := fun j => j = A.b) (Only.refl _ _) ⟨A.b, 6, none⟩ rfl _
  have hD : Dev w' D 0 0 false 3072 0 false np h := ⟨Blk.below x.Dv.H hb (by omega), Blk.below x.Dv.T hb (by have := x.Dv.ap; omega), Blk.below x.Dv.Li hb (by omega), Blk.below x.Dv.A hb (by have := x.Dv.ap; omega), Blk.below x.Dv.I hb (by have := x.Dv.ap; omega), Blk.below x.Dv.P hb (by have := x.Dv.ap; omega), Blk.below x.Dv.F hb (by have := x.Dv.ap; omega), Blk.below x.Dv.G hb (by have := x.Dv.ap; omega), Blk.below x.Dv.V hb (by have := x.Dv.ap; omega), x.Dv.ap⟩
  exact ⟨⟨Blk.set_ hB 6 V', Blk.only (Blk.below x.C hb (by omega)) ho (by omega), (x.R.below hb (by omega) (by omega)).only ho (by omega) (by omega), hD.only ho (fun k e => Or.inr (by have e : k = A.b := e; omega)), ⟨rows', own_only hT' ho (fun k e => by have e : k = A.b := e; omega)⟩, o1, o2, o3, o4, o5, o6, Nat.le_trans o7 (Nat.le_trans hb.size ho.size)⟩, hb⟩
/-- A block of what is told. -/
def AccB (w : World) (k : Nat) : Prop := ∃ cs fr, w.heap[k]? = some (.cells cs 234 fr)
/-- All stays but a bus and what it tells. -/
def KeepX (D : DevA) (base : Nat) (w w' : World) : Prop := w.heap.size ≤ w'.heap.size ∧ ∀ k, k < w.heap.size → ¬ Bz D base k → ¬ AccB w k → w'.heap[k]? = w.heap[k]?
theorem KeepX.trans {a b c : World} (x : KeepX D base a b) (y : KeepX D base b c) : KeepX D base a c := ⟨Nat.le_trans x.1 y.1, fun k h1 h2 h3 => by
  have e := x.2 k h1 h2 h3
  refine (y.2 k (Nat.lt_of_lt_of_le h1 x.1) h2 ?_).trans e
  rintro ⟨cs, fr, h⟩
  exact h3 ⟨cs, fr, e.symm.trans h⟩⟩
theorem KeepX.only (ho : Only (Bz D base) w w') : KeepX D base w w' := ⟨ho.size, fun k h1 h2 _ => ho.block k h1 h2⟩
theorem KeepX.low (hb : Below w.heap.size w w') : KeepX D base w w' := ⟨hb.size, fun k h1 _ _ => hb.block k h1⟩
theorem KeepX.grown {rows : List Value} (hT : w.ownsRow base 234 5 V k rows) (hg : w.grownBy w' V.ownBlock) : KeepX D base w w' :=
  ⟨hg.size, fun g h1 _ h3 => hg.block g h1 (fun e => h3 (by obtain ⟨_, cur, hc⟩ := own_blk hT e.symm; exact ⟨cur, _, hc⟩))⟩
theorem KeepX.blk {c : Nat} {t : TypeId} {cs : Array Value} (h : KeepX D base w w') (hB : Blk w c t cs) (hz : ¬ Bz D base c) (ht : t ≠ 234) : Blk w' c t cs := by
  refine (h.2 c hB.lt hz ?_).trans hB
  rintro ⟨xs, fr, hx⟩
  unfold Blk at hB
  rw [hB] at hx
  cases hx
  exact ht rfl
end
section
variable {D : DevA} {A : BusA} {base nr k h : Nat} {now cyc left np : Int} {F : Nat → Int} {V : Value}
theorem bsIs_calls (w : World) (x : BusW w D A base now cyc left np nr k h F V) : Calls Tryz.prog 26 #[.pointer (some ⟨A.b, 0, none⟩)] w fun e w' => e = .returned (.bool true) ∧ w = w' := by
  have c0 : w.cell? ⟨A.b, 0, none⟩ = some (.pointer (some ⟨A.ck, 0, none⟩)) := Blk.cell x.B 0
  go_enter Tryz.func26, Tryz.ntmps26
  go_wp2_with fail
  go_ret
  exact ⟨rfl, rfl⟩
end
theorem bsNew_calls (D : DevA) (w : World) (hD : Dev w D 0 0 false 3072 0 false 0 0) :
    Calls Tryz.prog 13 #[.slice none 0 0, .pointer (some ⟨D.p, 0, none⟩), .int .i64 5000] w fun e w' => ∃ A, e = .returned (.pointer (some ⟨A.b, 0, none⟩)) ∧ BusW w' D A w'.heap.size 0 0 5000 0 0 0 0 (fun _ => 0) (.slice none 0 0) ∧ Below w.heap.size w w' := by
  have hpw : D.p < w.heap.size := Blk.lt hD.H
  go_enter Tryz.func13, Tryz.ntmps13
  go_wp2_with fail
  refine (ckNew_calls w).mono ?_
  rintro e w1 ⟨ck, rfl, hC, hck, hb1⟩
  have hD1 := hD.low hb1
  go_wp2_with fail
  refine (slClone_calls none 0 0 (fun _ => 0) w1 (by omega) (fun i hi => by omega)).mono ?_
  rintro e w2 ⟨ro, rc, rfl, _, hb2⟩
  have hD2 := hD1.low hb2
  have hC2 : CK w2 ck 0 0 := Blk.below hC hb2 (Blk.lt hC)
  have hck2 : ck < w2.heap.size := Blk.lt hC2
  have hb02 := hb1.trans (hb2.mono hb1.size)
  go_wp2_with fail
  refine (rmNew_calls w2).mono ?_
  rintro e w3 ⟨rm, g, rfl, hR, hrm, hg, hb3⟩
  have hD3 := hD2.low hb3
  have hC3 : CK w3 ck 0 0 := Blk.below hC2 hb3 hck2
  have hb03 := hb02.trans (hb3.mono hb02.size)
  have hrl := hR.1.lt
  have hgl := hR.2.lt
  go_wp2_with fail
  go_ret
  refine ⟨⟨w3.heap.size, ck, rm, g, ro, rc⟩, rfl, ⟨Blk.new _ _ _, Blk.alloc hC3 _, hR.low (Bl.alloc (Below.refl _ _) _), hD3.low (Bl.alloc (Below.refl _ _) _), ⟨_, World.ownsRow_nil _ _ _ _⟩, ?_⟩, Bl.alloc hb03 _⟩
  refine ⟨by show D.p < ck; omega, by show ck < rm; omega, by show ck < g; omega, hrl, hgl, ?_, Nat.le_refl _⟩
  show w3.heap.size < (w3.alloc _).heap.size
  simp
end Go.Proofs.YtplobngbjpgcgaaGreatDoor
end
section
/-
  Package bus: begin.
-/
namespace Go.Proofs.YtplobngbjpgcgaaGreatDoor
set_option linter.unusedSimpArgs false
set_option linter.unusedVariables false
set_option maxRecDepth 10000
open Go.RowKit Pl
theorem BusW.drew {w : World} {D : DevA} {A : BusA} {base nr k h : Nat} {now cyc left np : Int} {F : Nat → Int} {V : Value} (x : BusW w D A base now cyc left np nr k h F V) : BusW w.drew D A base now cyc left np nr k h F V := x.low (Below.drew (Below.refl _ _))
set_option maxRecDepth 100000 in
set_option maxHeartbeats 8000000 in
/-- An access begins. -/
theorem bsBegin_calls (D : DevA) (A : BusA) (base nr k h a : Nat) (now cyc left np : Int) (F : Nat → Int) (V : Value) (x : Bool) (w : World) (ha : a < 4294967296) (hx : exO (whr a) = x) (l1 : 0 < left) (l2 : left ≤ 5000) (t1 : 0 ≤ np) (t2 : np ≤ now) (t3 : now ≤ 10000) (y1 : 0 ≤ cyc) (y2 : cyc ≤ 10000)
    (hB : BusW w D A base now cyc left np nr k h F V) :
    Calls Tryz.prog 171 #[.pointer (some ⟨A.b, 0, none⟩), .int .u32 (a : Int)] w fun e w' => e = .returned (.tuple #[.int .i64 now, .bool true]) ∧ BusW w' D A base (now + ckL x) (cyc + 1 + ixB x) (left - 1) now nr k h F V ∧ Only (Bz D base) w w' := by
  have hex := fun W => phExtra_calls a W ha
  rw [hx] at hex
  have i0 : (left == 0) = false := by rw [beq_eq_false_iff_ne]; omega
  have c4 : w.cell? ⟨A.b, 4, none⟩ = some (.int .i64 left) := Blk.cell hB.B 4
  have f4 : w.frozen? ⟨A.b, 4, none⟩ = false := Blk.frozen hB.B 4
  have i1 : IntKind.i64.wrap (left - 1) = left - 1 := by rw [IntKind.wrap_i64]; omega
  have ho1 : Only (fun j => j = A.b) w (w.setCell ⟨A.b, 4, none⟩ (.int .i64 (left - 1))) := Only.setCell (S := fun j => j = A.b) (Only.refl _ _) ⟨A.b, 4, none⟩ rfl _
  have hB1 : BusW (w.setCell ⟨A.b, 4, none⟩ (.int .i64 (left - 1))) D A base now cyc (left - 1) np nr k h F V := hB.setB (Blk.set_ hB.B 4 (.int .i64 (left - 1))) ho1
  have ho := hB.o
  have hap := hB.Dv.ap
  have hS : ∀ k, D.l ≤ k ∧ k < base → Bz D base k := fun k h => h
  have hB1o : Only (Bz D base) w (w.setCell ⟨A.b, 4, none⟩ (.int .i64 (left - 1))) := ho1.mono (fun k _ e => hS k (by have e : k = A.b := e; omega))
  have his := bsIs_calls w hB
  clear hB ho1
  go_enter Tryz.func171, Tryz.ntmps171
  go_wp2_with fail
  refine Cl.p his ?_
  clear his
  go_wp2_with fail
  generalize w.setCell ⟨A.b, 4, none⟩ (.int .i64 (left - 1)) = w1 at *
  clear c4 f4
  have c0 : w1.cell? ⟨A.b, 0, none⟩ = some (.pointer (some ⟨A.ck, 0, none⟩)) := Blk.cell hB1.B 0
  have hle : left - 1 ≤ 5000 := by omega
  refine wp_region_held_drew (S := fun W => W.cell? ⟨A.b, 0, none⟩ = some (.pointer (some ⟨A.ck, 0, none⟩))) (by kernel_rfl) (by first | exact c0.drew | exact c0 | exact Below.drew c0) (fun hS0 => ?_)
  have hB1_0 : BusW w1.drew D A base now cyc (left - 1) np nr k h F V := by first | exact hB1.drew | exact hB1
  have hB1o_0 : Only (Bz D base) w w1.drew := by first | exact hB1o.drew | exact hB1o
  clear c0 hB1 hB1o
  change wpAnyH _ _ _ _ _ 8 #[false, false, false, false, false, false, false, false] _ _
  generalize w1.drew = v0 at *
  refine wpAnyH_take (i := 0) (v := ?_) rfl (by kernel_rfl) (by kernel_rfl) (by kernel_rfl) (fun _ _ _ h => h) (Or.inl ⟨by rfl, ?_⟩) hS0 ?_
  rotate_left
  · (intro w hSw; (try dsimp only at hSw); go_simp; try with_reducible rfl)
  simp only [List.getElem_toArray, List.getElem_cons_zero, List.getElem_cons_succ, Act.put, List.setIfInBounds_toArray, List.set_cons_zero, List.set_cons_succ]
  refine wpAnyH_take (i := 1) (v := ?_) rfl (by kernel_rfl) (by kernel_rfl) (by kernel_rfl) (fun _ _ _ h => h) (Or.inl ⟨by rfl, ?_⟩) hS0 ?_
  rotate_left
  · (intro w hSw; (try dsimp only at hSw); go_simp; try with_reducible rfl)
  simp only [List.getElem_toArray, List.getElem_cons_zero, List.getElem_cons_succ, Act.put, List.setIfInBounds_toArray, List.set_cons_zero, List.set_cons_succ]
  refine wpAnyH_take (i := 2) (v := ?_) rfl (by kernel_rfl) (by kernel_rfl) (by kernel_rfl) (fun _ _ _ h => h) (Or.inl ⟨by rfl, ?_⟩) hS0 ?_
  rotate_left
  · (intro w hSw; (try dsimp only at hSw); go_simp; try with_reducible rfl)
  simp only [List.getElem_toArray, List.getElem_cons_zero, List.getElem_cons_succ, Act.put, List.setIfInBounds_toArray, List.set_cons_zero, List.set_cons_succ]
  refine wpAnyH_take (i := 3) (v := ?_) rfl (by kernel_rfl) (by kernel_rfl) (by kernel_rfl) (fun _ _ _ h => h) (Or.inl ⟨by rfl, ?_⟩) hS0 ?_
  rotate_left
  · (intro w hSw; (try dsimp only at hSw); go_simp; try with_reducible rfl)
  simp only [List.getElem_toArray, List.getElem_cons_zero, List.getElem_cons_succ, Act.put, List.setIfInBounds_toArray, List.set_cons_zero, List.set_cons_succ]
  refine wpAnyH_take (i := 4) (v := ?_) rfl (by kernel_rfl) (by kernel_rfl) (by kernel_rfl) (fun _ _ _ h => h) (Or.inl ⟨by rfl, ?_⟩) hS0 ?_
  rotate_left
  · (intro w hSw; (try dsimp only at hSw); go_simp; try with_reducible rfl)
  simp only [List.getElem_toArray, List.getElem_cons_zero, List.getElem_cons_succ, Act.put, List.setIfInBounds_toArray, List.set_cons_zero, List.set_cons_succ]
  refine wpAnyH_ready (rs := [5]) (by kernel_rfl) (by simp) ?_
  refine AllReadyH.cons rfl (fun K hK => ?_) AllReadyH.nil
  go_simp
  refine (hex _).mono ?_
  rintro e v1 ⟨rfl, hb1⟩
  (try go_simp)
  refine hK.out _ _ ((hb1.cell (cell_lt hS0)).trans hS0) (fun hS1 => ?_)
  clear hK K
  have hB1_1 : BusW v1 D A base now cyc (left - 1) np nr k h F V := (by first | exact hB1_0.below hb1 hB1_0.lt | exact hB1_0.trans (hb1.mono hB1_0.size) | exact hB1_0.trans (hb1.mono (by have := hB1_0.size; omega)) | exact (hb1.cell (cell_lt hB1_0)).trans hB1_0 | exact hB1_0.below hb1 (Nat.le_refl _) | exact hB1_0.low hb1 | exact hB1_0.below hb1 | exact hB1_0.trans (Only.of hb1))
  have hB1o_1 : Only (Bz D base) w v1 := (hB1o_0.trans (Only.of hb1))
  clear hb1 hS0
  simp only [List.getElem_toArray, List.getElem_cons_zero, List.getElem_cons_succ, Act.put, List.setIfInBounds_toArray, List.set_cons_zero, List.set_cons_succ]
  refine wpAnyH_ready (rs := [6]) (by kernel_rfl) (by simp) ?_
  refine AllReadyH.cons rfl (fun K hK => ?_) AllReadyH.nil
  go_simp
  refine (ckCycle_calls A.ck now cyc x _ (by omega) (by omega) (by omega) (by omega) (BusW.C hB1_1)).mono ?_
  rintro e v2 ⟨rfl, q1, q2⟩
  have hN := BusW.setC hB1_1 q1 q2
  have hNo := Only.trans hB1o_1 (q2.mono (fun k _ e => hS k (by have e : k = A.ck := e; omega)))
  (try go_simp)
  refine hK.out _ _ (Blk.cell (BusW.B hN) 0) (fun hS2 => ?_)
  clear hK K hS1
  simp only [List.getElem_toArray, List.getElem_cons_zero, List.getElem_cons_succ, Act.put, List.setIfInBounds_toArray, List.set_cons_zero, List.set_cons_succ]
  refine wpAnyH_take (i := 7) (v := ?_) rfl (by kernel_rfl) (by kernel_rfl) (by kernel_rfl) (fun _ _ _ h => h) (Or.inl ⟨by rfl, ?_⟩) hS2 ?_
  rotate_left
  · (intro w hSw; (try dsimp only at hSw); go_simp; try with_reducible rfl)
  simp only [List.getElem_toArray, List.getElem_cons_zero, List.getElem_cons_succ, Act.put, List.setIfInBounds_toArray, List.set_cons_zero, List.set_cons_succ]
  refine wpAnyH_done (by kernel_rfl) ?_ _
  have c0 := hS2
  clear hS2
  generalize v2 = w2 at *
  have c3 : w2.cell? ⟨A.b, 3, none⟩ = some (.pointer (some ⟨D.p, 0, none⟩)) := Blk.cell hN.B 3
  go_wp2_with fail
  refine (hdToC D h np now w2 t1 (by omega) t2 hN.Dv).mono ?_
  rintro e w3 ⟨rfl, hD3, ho3⟩
  have hM := hN.setD hD3 ho3
  have hMo := hNo.trans (ho3.mono (fun k _ e => hS k (by have e1 := e.1; have e2 := e.2; omega)))
  go_wp2_with fail
  go_ret2
  exact ⟨rfl, hM, hMo⟩
end Go.Proofs.YtplobngbjpgcgaaGreatDoor
end
