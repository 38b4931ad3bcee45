/-
  Bus1, Bus2, Bus3, Bus4, Bus5 as one text (merge.py).
-/
import Derived.Test.YtemfdkoipeedeaaMap1
import Derived.Test.YtemfdkoipeedeaaClk
import Derived.Test.YtemfdkoipeedeaaRam2
import Derived.Test.YtemfdkoipeedeaaInfo
/-
  Package bus: what it holds; New, is, Left, begin.
-/
namespace Go.Proofs.Ytemfdkoipeedeaa
set_option linter.unusedSimpArgs false
set_option linter.unusedVariables false
set_option maxRecDepth 10000
open Go.RowKit Pl
theorem own_keep {w w' : World} {base n size : Nat} {e : TypeId} {v : Value} {xs : List Value} (h : w.ownsRow base e size v n xs) (hk : ∀ g, v.ownBlock = some g → w'.heap[g]? = w.heap[g]?) : w'.ownsRow base e size v n xs := by
  obtain ⟨hl, h⟩ := h
  refine ⟨hl, ?_⟩
  rcases h with h | ⟨g, cap, cur, rfl, hb, hh, r⟩
  · exact Or.inl h
  · exact Or.inr ⟨g, cap, cur, rfl, hb, (hk g rfl).trans hh, r⟩
theorem own_set {w : World} {base n size g i cap : Nat} {e : TypeId} {xs : List Value} (h : w.ownsRow base e size (.slice (some ⟨g, 0, none⟩) n cap) n xs) (hi : i < n * size) (u : Value) :
    (w.setCell ⟨g, i, none⟩ u).ownsRow base e size (.slice (some ⟨g, 0, none⟩) n cap) n (xs.set i u) := by
  obtain ⟨hl, h⟩ := h
  refine ⟨by simpa using hl, ?_⟩
  rcases h with ⟨h, _⟩ | ⟨g', cap', cur, hv, hb, hh, h1, h2, h3, h4⟩
  · cases h
  · cases hv
    refine Or.inr ⟨g, cap, cur.setIfInBounds i u, rfl, hb, ?_, h1, h2, by simpa using h3, ?_⟩
    · exact Blk.set_ (t := e) (cs := cur) hh i u
    · rw [Array.toList_setIfInBounds, List.take_set, h4]
theorem own_blk {w : World} {base n size g : Nat} {e : TypeId} {v : Value} {xs : List Value} (h : w.ownsRow base e size v n xs) (hg : v.ownBlock = some g) : base ≤ g ∧ ∃ cur, w.heap[g]? = some (.cells cur e (0, 0)) := by
  rcases h.2 with ⟨rfl, _⟩ | ⟨g', cap, cur, rfl, hb, hh, _⟩
  · cases hg
  · cases hg
    exact ⟨hb, cur, hh⟩
theorem own_type {w : World} {b1 b2 n1 n2 s1 s2 g : Nat} {e1 e2 : TypeId} {v1 v2 : Value} {x1 x2 : List Value} (h1 : w.ownsRow b1 e1 s1 v1 n1 x1) (h2 : w.ownsRow b2 e2 s2 v2 n2 x2) (he : e1 ≠ e2) (hg : v1.ownBlock = some g) : some g ≠ v2.ownBlock := fun hx => by
  obtain ⟨_, c1, k1⟩ := own_blk h1 hg
  obtain ⟨_, c2, k2⟩ := own_blk h2 hx.symm
  rw [k1] at k2
  cases k2
  exact he rfl
theorem own_lt {w : World} {base n size g : Nat} {e : TypeId} {v : Value} {xs : List Value} (h : w.ownsRow base e size v n xs) (hg : v.ownBlock = some g) : g < w.heap.size := by
  obtain ⟨_, c, k⟩ := own_blk h hg
  rcases Nat.lt_or_ge g w.heap.size with hlt | hge
  · exact hlt
  · rw [Array.getElem?_eq_none hge] at k; cases k
/-- Where a bus lies. -/
structure BusA where
  b : Nat
  ck : Nat
  rm : Nat
  g : Nat
  ro : Option Addr
  rc : Nat
def bsRow (A : BusA) (D : DevA) (left : Int) (V : Value) : Array Value := #[.pointer (some ⟨A.ck, 0, none⟩), .slice A.ro 0 A.rc, .pointer (some ⟨A.rm, 0, none⟩), .pointer (some ⟨D.p, 0, none⟩), .int .i64 left, .bool false, V]
structure BusW (w : World) (D : DevA) (A : BusA) (base : Nat) (now cyc left np : Int) (nr k h : Nat) (F : Nat → Int) (V : Value) : Prop where
  B : Blk w A.b 76 (bsRow A D left V)
  C : CK w A.ck now cyc
  R : RamB w A.rm A.g nr F
  Dv : Dev w D 0 0 false 3072 0 false np h
  T : ∃ rows, w.ownsRow base 86 5 V k rows
  o : D.p < A.ck ∧ A.ck < A.rm ∧ A.ck < A.g ∧ A.rm < A.b ∧ A.g < A.b ∧ A.b < base ∧ base ≤ w.heap.size
/-- The blocks that a bus writes, but for what it tells. -/
def Bz (D : DevA) (base : Nat) (k : Nat) : Prop := D.l ≤ k ∧ k < base
section
variable {w w' : World} {D : DevA} {A : BusA} {base nr k h : Nat} {now cyc left np : Int} {F : Nat → Int} {V : Value}
theorem own_only {base n size : Nat} {e : TypeId} {v : Value} {xs : List Value} {S : Nat → Prop} (hT : w.ownsRow base e size v n xs) (ho : Only S w w') (hs : ∀ k, S k → k < base) : w'.ownsRow base e size v n xs :=
  own_keep hT (fun g hg => ho.block g (own_lt hT hg) (fun h => by have h1 := hs g h; have h2 := (own_blk hT hg).1; omega))
theorem own_low {base n size : Nat} {e : TypeId} {v : Value} {xs : List Value} (hT : w.ownsRow base e size v n xs) (hb : Below w.heap.size w w') : w'.ownsRow base e size v n xs :=
  own_keep hT (fun g hg => hb.block g (own_lt hT hg))
theorem BusW.low (x : BusW w D A base now cyc left np nr k h F V) (hb : Below w.heap.size w w') : BusW w' D A base now cyc left np nr k h F V := by
  obtain ⟨rows, hT⟩ := x.T
  obtain ⟨o1, o2, o3, o4, o5, o6, o7⟩ := x.o
  exact ⟨Blk.below x.B hb (Blk.lt x.B), Blk.below x.C hb (Blk.lt x.C), x.R.low hb, x.Dv.low hb, ⟨rows, own_low hT hb⟩, o1, o2, o3, o4, o5, o6, Nat.le_trans o7 hb.size⟩
theorem BusW.lp (x : BusW w D A base now cyc left np nr k h F V) : D.l < D.p := by have := x.Dv.ap; omega
theorem BusW.setC {now' cyc' : Int} (x : BusW w D A base now cyc left np nr k h F V) (y : CK w' A.ck now' cyc') (ho : Only (fun j => j = A.ck) w w') : BusW w' D A base now' cyc' left np nr k h F V := by
  obtain ⟨rows, hT⟩ := x.T
  obtain ⟨o1, o2, o3, o4, o5, o6, o7⟩ := x.o
  have hl := x.lp
  exact ⟨Blk.only x.B ho (by omega), y, x.R.only ho (by omega) (by omega), x.Dv.only ho (fun k e => Or.inr (by have e : k = A.ck := e; omega)), ⟨rows, own_only hT ho (fun k e => by have e : k = A.ck := e; omega)⟩, o1, o2, o3, o4, o5, o6, Nat.le_trans o7 ho.size⟩
theorem BusW.setD {np' : Int} {h' : Nat} (x : BusW w D A base now cyc left np nr k h F V) (y : Dev w' D 0 0 false 3072 0 false np' h') (ho : Only D.has w w') : BusW w' D A base now cyc left np' nr k h' F V := by
  obtain ⟨rows, hT⟩ := x.T
  obtain ⟨o1, o2, o3, o4, o5, o6, o7⟩ := x.o
  have hl := x.lp
  have n : ∀ k, D.p < k → ¬ D.has k := fun k h1 h2 => by have := h2.2; omega
  exact ⟨Blk.only x.B ho (n _ (by omega)), Blk.only x.C ho (n _ (by omega)), x.R.only ho (n _ (by omega)) (n _ (by omega)), y, ⟨rows, own_only hT ho (fun k e => by have := e.2; omega)⟩, o1, o2, o3, o4, o5, o6, Nat.le_trans o7 ho.size⟩
theorem BusW.setR {nr' : Nat} {F' : Nat → Int} (x : BusW w D A base now cyc left np nr k h F V) (y : RamB w' A.rm A.g nr' F') (ho : Only (fun j => j = A.g) w w') : BusW w' D A base now cyc left np nr' k h F' V := by
  obtain ⟨rows, hT⟩ := x.T
  obtain ⟨o1, o2, o3, o4, o5, o6, o7⟩ := x.o
  have hl := x.lp
  exact ⟨Blk.only x.B ho (by omega), Blk.only x.C ho (by omega), y, x.Dv.only ho (fun k e => Or.inr (by have e : k = A.g := e; omega)), ⟨rows, own_only hT ho (fun k e => by have e : k = A.g := e; omega)⟩, o1, o2, o3, o4, o5, o6, Nat.le_trans o7 ho.size⟩
theorem BusW.setB {left' : Int} (x : BusW w D A base now cyc left np nr k h F V) (y : Blk w' A.b 76 (bsRow A D left' V)) (ho : Only (fun j => j = A.b) w w') : BusW w' D A base now cyc left' np nr k h F V := by
  obtain ⟨rows, hT⟩ := x.T
  obtain ⟨o1, o2, o3, o4, o5, o6, o7⟩ := x.o
  have hl := x.lp
  exact ⟨y, Blk.only x.C ho (by omega), x.R.only ho (by omega) (by omega), x.Dv.only ho (fun k e => Or.inr (by have e : k = A.b := e; omega)), ⟨rows, own_only hT ho (fun k e => by have e : k = A.b := e; omega)⟩, o1, o2, o3, o4, o5, o6, Nat.le_trans o7 ho.size⟩
/-- One more is told. -/
theorem BusW.setT {V' : Value} {rows rows' : List Value} (x : BusW w D A base now cyc left np nr k h F V) (hT : w.ownsRow base 86 5 V k rows) (hg : w.grownBy w' V.ownBlock) (hT' : w'.ownsRow base 86 5 V' (k + 1) rows') :
    BusW (w'.setCell ⟨A.b, 6, none⟩ V') D A base now cyc left np nr (k + 1) h F V' ∧ Below base w w' := by
  obtain ⟨o1, o2, o3, o4, o5, o6, o7⟩ := x.o
  have hl := x.lp
  have hb : Below base w w' := (Below.refl base w).grown hg o7 (fun k hk => (own_blk hT hk).1)
  have hB : Blk w' A.b 76 (bsRow A D left V) := Blk.below x.B hb o6
  have ho : Only (fun j => j = A.b) w' (w'.setCell ⟨A.b, 6, none⟩ V') := Only.setCell (S := fun j => j = A.b) (Only.refl _ _) ⟨A.b, 6, none⟩ rfl _
  have hD : Dev w' D 0 0 false 3072 0 false np h := ⟨Blk.below x.Dv.H hb (by omega), Blk.below x.Dv.T hb (by have := x.Dv.ap; omega), Blk.below x.Dv.Li hb (by omega), Blk.below x.Dv.A hb (by have := x.Dv.ap; omega), Blk.below x.Dv.I hb (by have := x.Dv.ap; omega), Blk.below x.Dv.P hb (by have := x.Dv.ap; omega), Blk.below x.Dv.F hb (by have := x.Dv.ap; omega), Blk.below x.Dv.G hb (by have := x.Dv.ap; omega), Blk.below x.Dv.V hb (by have := x.Dv.ap; omega), x.Dv.ap⟩
  exact ⟨⟨Blk.set_ hB 6 V', Blk.only (Blk.below x.C hb (by omega)) ho (by omega), (x.R.below hb (by omega) (by omega)).only ho (by omega) (by omega), hD.only ho (fun k e => Or.inr (by have e : k = A.b := e; omega)), ⟨rows', own_only hT' ho (fun k e => by have e : k = A.b := e; omega)⟩, o1, o2, o3, o4, o5, o6, Nat.le_trans o7 (Nat.le_trans hb.size ho.size)⟩, hb⟩
/-- Rows of 16 bit numbers stay. -/
def KeepU (base : Nat) (w w' : World) : Prop := ∀ v n cs, w.ownsRow base 23 1 v n cs → w'.ownsRow base 23 1 v n cs
theorem KeepU.trans {a b c : World} (x : KeepU base a b) (y : KeepU base b c) : KeepU base a c := fun v n cs h => y v n cs (x v n cs h)
theorem KeepU.only {S : Nat → Prop} (ho : Only S w w') (hs : ∀ k, S k → k < base) : KeepU base w w' := fun _ _ _ h => own_only h ho hs
theorem KeepU.grown {rows : List Value} (hT : w.ownsRow base 86 5 V k rows) (hg : w.grownBy w' V.ownBlock) : KeepU base w w' := fun v n cs h =>
  own_keep h (fun g hg' => hg.block g (own_lt h hg') (own_type h hT (by decide) hg'))
end
section
variable {D : DevA} {A : BusA} {base nr k h : Nat} {now cyc left np : Int} {F : Nat → Int} {V : Value}
theorem bsIs_calls (w : World) (x : BusW w D A base now cyc left np nr k h F V) : Calls Try.prog 26 #[.pointer (some ⟨A.b, 0, none⟩)] w fun e w' => e = .returned (.bool true) ∧ w = w' := by
  have c0 : w.cell? ⟨A.b, 0, none⟩ = some (.pointer (some ⟨A.ck, 0, none⟩)) := Blk.cell x.B 0
  go_enter Try.func26, Try.ntmps26
  go_wp2_with fail
  go_ret
  exact ⟨rfl, rfl⟩
theorem bsLeft_calls (w : World) (x : BusW w D A base now cyc left np nr k h F V) : Calls Try.prog 8 #[.pointer (some ⟨A.b, 0, none⟩)] w fun e w' => e = .returned (.int .i64 left) ∧ w = w' := by
  have c4 : w.cell? ⟨A.b, 4, none⟩ = some (.int .i64 left) := Blk.cell x.B 4
  have hi := fun W (x : BusW W D A base now cyc left np nr k h F V) => bsIs_calls W x
  go_enter Try.func8, Try.ntmps8
  go_wp2_with fail
  refine Cl.p (hi _ x) ?_
  go_wp2_with fail
  go_ret
  exact ⟨rfl, rfl⟩
end
theorem bsNew_calls (D : DevA) (w : World) (hD : Dev w D 0 0 false 3072 0 false 0 0) :
    Calls Try.prog 7 #[.slice none 0 0, .pointer (some ⟨D.p, 0, none⟩), .int .i64 100] w fun e w' => ∃ A, e = .returned (.pointer (some ⟨A.b, 0, none⟩)) ∧ BusW w' D A w'.heap.size 0 0 100 0 0 0 0 (fun _ => 0) (.slice none 0 0) ∧ Below w.heap.size w w' := by
  have hpw : D.p < w.heap.size := Blk.lt hD.H
  go_enter Try.func7, Try.ntmps7
  go_wp2_with fail
  refine (ckNew_calls w).mono ?_
  rintro e w1 ⟨ck, rfl, hC, hck, hb1⟩
  have hD1 := hD.low hb1
  go_wp2_with fail
  refine (slClone_calls none 0 0 (fun _ => 0) w1 (by omega) (fun i hi => by omega)).mono ?_
  rintro e w2 ⟨ro, rc, rfl, _, hb2⟩
  have hD2 := hD1.low hb2
  have hC2 : CK w2 ck 0 0 := Blk.below hC hb2 (Blk.lt hC)
  have hck2 : ck < w2.heap.size := Blk.lt hC2
  have hb02 := hb1.trans (hb2.mono hb1.size)
  go_wp2_with fail
  refine (rmNew_calls w2).mono ?_
  rintro e w3 ⟨rm, g, rfl, hR, hrm, hg, hb3⟩
  have hD3 := hD2.low hb3
  have hC3 : CK w3 ck 0 0 := Blk.below hC2 hb3 hck2
  have hb03 := hb02.trans (hb3.mono hb02.size)
  have hrl := hR.1.lt
  have hgl := hR.2.lt
  go_wp2_with fail
  go_ret
  refine ⟨⟨w3.heap.size, ck, rm, g, ro, rc⟩, rfl, ⟨Blk.new _ _ _, Blk.alloc hC3 _, hR.low (Bl.alloc (Below.refl _ _) _), hD3.low (Bl.alloc (Below.refl _ _) _), ⟨_, World.ownsRow_nil _ _ _ _⟩, ?_⟩, Bl.alloc hb03 _⟩
  refine ⟨by show D.p < ck; omega, by show ck < rm; omega, by show ck < g; omega, hrl, hgl, ?_, Nat.le_refl _⟩
  show w3.heap.size < (w3.alloc _).heap.size
  simp
end Go.Proofs.Ytemfdkoipeedeaa

/-
  Package bus: begin.
-/
namespace Go.Proofs.Ytemfdkoipeedeaa
open Go.RowKit Pl
theorem BusW.drew {w : World} {D : DevA} {A : BusA} {base nr k h : Nat} {now cyc left np : Int} {F : Nat → Int} {V : Value} (x : BusW w D A base now cyc left np nr k h F V) : BusW w.drew D A base now cyc left np nr k h F V := x.low (Below.drew (Below.refl _ _))
set_option maxRecDepth 100000 in
set_option maxHeartbeats 8000000 in
/-- An access begins. -/
theorem bsBegin_calls (D : DevA) (A : BusA) (base nr k h a : Nat) (now cyc left np : Int) (F : Nat → Int) (V : Value) (x : Bool) (w : World) (ha : a < 4294967296) (hx : exO (whr a) = x) (l1 : 0 < left) (l2 : left ≤ 100) (t1 : 0 ≤ np) (t2 : np ≤ now) (t3 : now ≤ 10000) (y1 : 0 ≤ cyc) (y2 : cyc ≤ 10000)
    (hB : BusW w D A base now cyc left np nr k h F V) :
    Calls Try.prog 29 #[.pointer (some ⟨A.b, 0, none⟩), .int .u32 (a : Int)] w fun e w' => e = .returned (.tuple #[.int .i64 now, .bool true]) ∧ BusW w' D A base (now + ckL x) (cyc + 1 + ixB x) (left - 1) now nr k h F V ∧ Only (Bz D base) w w' := by
  have hex := fun W => phExtra_calls a W ha
  rw [hx] at hex
  have i0 : (left == 0) = false := by rw [beq_eq_false_iff_ne]; omega
  have c4 : w.cell? ⟨A.b, 4, none⟩ = some (.int .i64 left) := Blk.cell hB.B 4
  have f4 : w.frozen? ⟨A.b, 4, none⟩ = false := Blk.frozen hB.B 4
  have i1 : IntKind.i64.wrap (left - 1) = left - 1 := by rw [IntKind.wrap_i64]; omega
  have ho1 : Only (fun j => j = A.b) w (w.setCell ⟨A.b, 4, none⟩ (.int .i64 (left - 1))) := Only.setCell (S := fun j => j = A.b) (Only.refl _ _) ⟨A.b, 4, none⟩ rfl _
  have hB1 : BusW (w.setCell ⟨A.b, 4, none⟩ (.int .i64 (left - 1))) D A base now cyc (left - 1) np nr k h F V := hB.setB (Blk.set_ hB.B 4 (.int .i64 (left - 1))) ho1
  have ho := hB.o
  have hap := hB.Dv.ap
  have hS : ∀ k, D.l ≤ k ∧ k < base → Bz D base k := fun k h => h
  have hB1o : Only (Bz D base) w (w.setCell ⟨A.b, 4, none⟩ (.int .i64 (left - 1))) := ho1.mono (fun k _ e => hS k (by have e : k = A.b := e; omega))
  have his := bsIs_calls w hB
  clear hB ho1
  go_enter Try.func29, Try.ntmps29
  go_wp2_with fail
  refine Cl.p his ?_
  clear his
  go_wp2_with fail
  generalize w.setCell ⟨A.b, 4, none⟩ (.int .i64 (left - 1)) = w1 at *
  clear c4 f4
  have c0 : w1.cell? ⟨A.b, 0, none⟩ = some (.pointer (some ⟨A.ck, 0, none⟩)) := Blk.cell hB1.B 0
  have hle : left - 1 ≤ 100 := by omega
  refine wp_region_held_drew (S := fun W => W.cell? ⟨A.b, 0, none⟩ = some (.pointer (some ⟨A.ck, 0, none⟩))) (by kernel_rfl) (by first | exact c0.drew | exact c0 | exact Below.drew c0) (fun hS0 => ?_)
  have hB1_0 : BusW w1.drew D A base now cyc (left - 1) np nr k h F V := by first | exact hB1.drew | exact hB1
  have hB1o_0 : Only (Bz D base) w w1.drew := by first | exact hB1o.drew | exact hB1o
  clear c0 hB1 hB1o
  change wpAnyH _ _ _ _ _ 8 #[false, false, false, false, false, false, false, false] _ _
  generalize w1.drew = v0 at *
  refine wpAnyH_take (i := 0) (v := ?_) rfl (by kernel_rfl) (by kernel_rfl) (by kernel_rfl) (fun _ _ _ h => h) (Or.inl ⟨by rfl, ?_⟩) hS0 ?_
  rotate_left
  · (intro w hSw; (try dsimp only at hSw); go_simp; try with_reducible rfl)
  simp only [List.getElem_toArray, List.getElem_cons_zero, List.getElem_cons_succ, Act.put, List.setIfInBounds_toArray, List.set_cons_zero, List.set_cons_succ]
  refine wpAnyH_take (i := 1) (v := ?_) rfl (by kernel_rfl) (by kernel_rfl) (by kernel_rfl) (fun _ _ _ h => h) (Or.inl ⟨by rfl, ?_⟩) hS0 ?_
  rotate_left
  · (intro w hSw; (try dsimp only at hSw); go_simp; try with_reducible rfl)
  simp only [List.getElem_toArray, List.getElem_cons_zero, List.getElem_cons_succ, Act.put, List.setIfInBounds_toArray, List.set_cons_zero, List.set_cons_succ]
  refine wpAnyH_take (i := 2) (v := ?_) rfl (by kernel_rfl) (by kernel_rfl) (by kernel_rfl) (fun _ _ _ h => h) (Or.inl ⟨by rfl, ?_⟩) hS0 ?_
  rotate_left
  · (intro w hSw; (try dsimp only at hSw); go_simp; try with_reducible rfl)
  simp only [List.getElem_toArray, List.getElem_cons_zero, List.getElem_cons_succ, Act.put, List.setIfInBounds_toArray, List.set_cons_zero, List.set_cons_succ]
  refine wpAnyH_take (i := 3) (v := ?_) rfl (by kernel_rfl) (by kernel_rfl) (by kernel_rfl) (fun _ _ _ h => h) (Or.inl ⟨by rfl, ?_⟩) hS0 ?_
  rotate_left
  · (intro w hSw; (try dsimp only at hSw); go_simp; try with_reducible rfl)
  simp only [List.getElem_toArray, List.getElem_cons_zero, List.getElem_cons_succ, Act.put, List.setIfInBounds_toArray, List.set_cons_zero, List.set_cons_succ]
  refine wpAnyH_take (i := 4) (v := ?_) rfl (by kernel_rfl) (by kernel_rfl) (by kernel_rfl) (fun _ _ _ h => h) (Or.inl ⟨by rfl, ?_⟩) hS0 ?_
  rotate_left
  · (intro w hSw; (try dsimp only at hSw); go_simp; try with_reducible rfl)
  simp only [List.getElem_toArray, List.getElem_cons_zero, List.getElem_cons_succ, Act.put, List.setIfInBounds_toArray, List.set_cons_zero, List.set_cons_succ]
  refine wpAnyH_ready (rs := [5]) (by kernel_rfl) (by simp) ?_
  refine AllReadyH.cons rfl (fun K hK => ?_) AllReadyH.nil
  go_simp
  refine (hex _).mono ?_
  rintro e v1 ⟨rfl, hb1⟩
  (try go_simp)
  refine hK.out _ _ (by first | exact hS0.below hb1 hS0.lt | exact hS0.trans (hb1.mono hS0.size) | exact hS0.trans (hb1.mono (by have := hS0.size; omega)) | exact (hb1.cell (cell_lt hS0)).trans hS0 | exact hS0.below hb1 (Nat.le_refl _) | exact hS0.low hb1 | exact hS0.below hb1 | exact hS0.trans (Only.of hb1)) (fun hS1 => ?_)
  clear hK K
  have hB1_1 : BusW v1 D A base now cyc (left - 1) np nr k h F V := (by first | exact hB1_0.below hb1 hB1_0.lt | exact hB1_0.trans (hb1.mono hB1_0.size) | exact hB1_0.trans (hb1.mono (by have := hB1_0.size; omega)) | exact (hb1.cell (cell_lt hB1_0)).trans hB1_0 | exact hB1_0.below hb1 (Nat.le_refl _) | exact hB1_0.low hb1 | exact hB1_0.below hb1 | exact hB1_0.trans (Only.of hb1))
  have hB1o_1 : Only (Bz D base) w v1 := (by first | exact hB1o_0.below hb1 hB1o_0.lt | exact hB1o_0.trans (hb1.mono hB1o_0.size) | exact hB1o_0.trans (hb1.mono (by have := hB1o_0.size; omega)) | exact (hb1.cell (cell_lt hB1o_0)).trans hB1o_0 | exact hB1o_0.below hb1 (Nat.le_refl _) | exact hB1o_0.low hb1 | exact hB1o_0.below hb1 | exact hB1o_0.trans (Only.of hb1))
  clear hb1 hS0
  simp only [List.getElem_toArray, List.getElem_cons_zero, List.getElem_cons_succ, Act.put, List.setIfInBounds_toArray, List.set_cons_zero, List.set_cons_succ]
  refine wpAnyH_ready (rs := [6]) (by kernel_rfl) (by simp) ?_
  refine AllReadyH.cons rfl (fun K hK => ?_) AllReadyH.nil
  go_simp
  refine (ckCycle_calls A.ck now cyc x _ (by omega) (by omega) (by omega) (by omega) (BusW.C hB1_1)).mono ?_
  rintro e v2 ⟨rfl, q1, q2⟩
  have hN := BusW.setC hB1_1 q1 q2
  have hNo := Only.trans hB1o_1 (q2.mono (fun k _ e => hS k (by have e : k = A.ck := e; omega)))
  (try go_simp)
  refine hK.out _ _ (Blk.cell (BusW.B hN) 0) (fun hS2 => ?_)
  clear hK K hS1
  simp only [List.getElem_toArray, List.getElem_cons_zero, List.getElem_cons_succ, Act.put, List.setIfInBounds_toArray, List.set_cons_zero, List.set_cons_succ]
  refine wpAnyH_take (i := 7) (v := ?_) rfl (by kernel_rfl) (by kernel_rfl) (by kernel_rfl) (fun _ _ _ h => h) (Or.inl ⟨by rfl, ?_⟩) hS2 ?_
  rotate_left
  · (intro w hSw; (try dsimp only at hSw); go_simp; try with_reducible rfl)
  simp only [List.getElem_toArray, List.getElem_cons_zero, List.getElem_cons_succ, Act.put, List.setIfInBounds_toArray, List.set_cons_zero, List.set_cons_succ]
  refine wpAnyH_done (by kernel_rfl) ?_ _
  have c0 := hS2
  clear hS2
  generalize v2 = w2 at *
  have c3 : w2.cell? ⟨A.b, 3, none⟩ = some (.pointer (some ⟨D.p, 0, none⟩)) := Blk.cell hN.B 3
  go_wp2_with fail
  refine (hdToC D h np now w2 t1 (by omega) t2 hN.Dv).mono ?_
  rintro e w3 ⟨rfl, hD3, ho3⟩
  have hM := hN.setD hD3 ho3
  have hMo := hNo.trans (ho3.mono (fun k _ e => hS k (by have e1 := e.1; have e2 := e.2; omega)))
  go_wp2_with fail
  go_ret2
  exact ⟨rfl, hM, hMo⟩
end Go.Proofs.Ytemfdkoipeedeaa

/-
  Package bus: put, Peek, load.
-/
namespace Go.Proofs.Ytemfdkoipeedeaa
open Go.RowKit Pl
set_option maxRecDepth 100000 in
set_option maxHeartbeats 4000000 in
theorem bsPut_ram (D : DevA) (A : BusA) (base nr k h a : Nat) (now cyc left np v : Int) (F : Nat → Int) (V : Value) (w : World) (ha : a < 4294967296) (hx : whr a = 1) (hn : nr < 1000) (hB : BusW w D A base now cyc left np nr k h F V) :
    Calls Try.prog 32 #[.pointer (some ⟨A.b, 0, none⟩), .int .u32 (a : Int), .int .u8 v] w fun e w' => e = .returned (.tuple #[]) ∧ BusW w' D A base now cyc left np (nr + 1) k h (updF F (a % 8192) v) V ∧ Only (Bz D base) w w' := by
  have hwh := fun W => phWhere_calls a W ha
  rw [hx] at hwh
  have hof := fun W => phOff_calls a W ha
  have ho := hB.o
  have hl := hB.lp
  have hS : ∀ k, D.l ≤ k ∧ k < base → Bz D base k := fun k h => h
  go_enter Try.func32, Try.ntmps32
  go_wp2_with fail
  refine Cl.m (hwh _) ?_
  intro w1 hb1
  have hB1 := hB.low hb1
  have hO1 : Only (Bz D base) w w1 := Only.of hb1
  have c2 : w1.cell? ⟨A.b, 2, none⟩ = some (.pointer (some ⟨A.rm, 0, none⟩)) := Blk.cell hB1.B 2
  clear hwh hB hb1
  go_wp2_with fail
  refine wp_region_held_drew (S := fun W => W.cell? ⟨A.b, 2, none⟩ = some (.pointer (some ⟨A.rm, 0, none⟩))) (by kernel_rfl) (by first | exact c2.drew | exact c2 | exact Below.drew c2) (fun hS0 => ?_)
  have hB1_0 : BusW w1.drew D A base now cyc left np nr k h F V := by first | exact hB1.drew | exact hB1
  have hO1_0 : Only (Bz D base) w w1.drew := by first | exact hO1.drew | exact hO1
  clear c2 hB1 hO1
  change wpAnyH _ _ _ _ _ 8 #[false, false, false, false, false, false, false, false] _ _
  generalize w1.drew = v0 at *
  refine wpAnyH_take (i := 0) (v := ?_) rfl (by kernel_rfl) (by kernel_rfl) (by kernel_rfl) (fun _ _ _ h => h) (Or.inl ⟨by rfl, ?_⟩) hS0 ?_
  rotate_left
  · (intro w hSw; (try dsimp only at hSw); go_simp; try with_reducible rfl)
  simp only [List.getElem_toArray, List.getElem_cons_zero, List.getElem_cons_succ, Act.put, List.setIfInBounds_toArray, List.set_cons_zero, List.set_cons_succ]
  refine wpAnyH_take (i := 1) (v := ?_) rfl (by kernel_rfl) (by kernel_rfl) (by kernel_rfl) (fun _ _ _ h => h) (Or.inl ⟨by rfl, ?_⟩) hS0 ?_
  rotate_left
  · (intro w hSw; (try dsimp only at hSw); go_simp; try with_reducible rfl)
  simp only [List.getElem_toArray, List.getElem_cons_zero, List.getElem_cons_succ, Act.put, List.setIfInBounds_toArray, List.set_cons_zero, List.set_cons_succ]
  refine wpAnyH_take (i := 2) (v := ?_) rfl (by kernel_rfl) (by kernel_rfl) (by kernel_rfl) (fun _ _ _ h => h) (Or.inl ⟨by rfl, ?_⟩) hS0 ?_
  rotate_left
  · (intro w hSw; (try dsimp only at hSw); go_simp; try with_reducible rfl)
  simp only [List.getElem_toArray, List.getElem_cons_zero, List.getElem_cons_succ, Act.put, List.setIfInBounds_toArray, List.set_cons_zero, List.set_cons_succ]
  refine wpAnyH_take (i := 3) (v := ?_) rfl (by kernel_rfl) (by kernel_rfl) (by kernel_rfl) (fun _ _ _ h => h) (Or.inl ⟨by rfl, ?_⟩) hS0 ?_
  rotate_left
  · (intro w hSw; (try dsimp only at hSw); go_simp; try with_reducible rfl)
  simp only [List.getElem_toArray, List.getElem_cons_zero, List.getElem_cons_succ, Act.put, List.setIfInBounds_toArray, List.set_cons_zero, List.set_cons_succ]
  refine wpAnyH_take (i := 4) (v := ?_) rfl (by kernel_rfl) (by kernel_rfl) (by kernel_rfl) (fun _ _ _ h => h) (Or.inl ⟨by rfl, ?_⟩) hS0 ?_
  rotate_left
  · (intro w hSw; (try dsimp only at hSw); go_simp; try with_reducible rfl)
  simp only [List.getElem_toArray, List.getElem_cons_zero, List.getElem_cons_succ, Act.put, List.setIfInBounds_toArray, List.set_cons_zero, List.set_cons_succ]
  refine wpAnyH_take (i := 6) (v := ?_) rfl (by kernel_rfl) (by kernel_rfl) (by kernel_rfl) (fun _ _ _ h => h) (Or.inl ⟨by rfl, ?_⟩) hS0 ?_
  rotate_left
  · (intro w hSw; (try dsimp only at hSw); go_simp; try with_reducible rfl)
  simp only [List.getElem_toArray, List.getElem_cons_zero, List.getElem_cons_succ, Act.put, List.setIfInBounds_toArray, List.set_cons_zero, List.set_cons_succ]
  refine wpAnyH_ready (rs := [5]) (by kernel_rfl) (by simp) ?_
  refine AllReadyH.cons rfl (fun K hK => ?_) AllReadyH.nil
  go_simp
  refine (hof _).mono ?_
  rintro e w' ⟨rfl, rfl⟩
  (try go_simp)
  refine hK.out _ _ hS0 (fun _ => ?_)
  clear hK K
  simp only [List.getElem_toArray, List.getElem_cons_zero, List.getElem_cons_succ, Act.put, List.setIfInBounds_toArray, List.set_cons_zero, List.set_cons_succ]
  refine wpAnyH_ready (rs := [7]) (by kernel_rfl) (by simp) ?_
  refine AllReadyH.cons rfl (fun K hK => ?_) AllReadyH.nil
  go_simp
  refine (rmWrite_calls A.rm A.g nr (a % 8192) v F _ (by omega) (by unfold maxLen; omega) (BusW.R hB1_0)).mono ?_
  rintro e v1 ⟨rfl, q1, q2⟩
  have hN := BusW.setR hB1_0 q1 q2
  have hNo := Only.trans hO1_0 (q2.mono (fun k _ e => hS k (by have e : k = A.g := e; omega)))
  (try go_simp)
  refine hK.out _ _ (Blk.cell (BusW.B hN) 2) (fun hS1 => ?_)
  clear hK K hS0
  simp only [List.getElem_toArray, List.getElem_cons_zero, List.getElem_cons_succ, Act.put, List.setIfInBounds_toArray, List.set_cons_zero, List.set_cons_succ]
  refine wpAnyH_done (by kernel_rfl) ?_ _
  have c2 := hS1
  clear hS1
  rw [show a % 8192 % 8192 = a % 8192 by omega] at hN
  go_wp2_with fail
  go_end0
  exact ⟨rfl, hN, hNo⟩
set_option maxRecDepth 100000 in
set_option maxHeartbeats 4000000 in
theorem bsPut_not (D : DevA) (A : BusA) (base nr k h a v : Nat) (now cyc left np : Int) (F : Nat → Int) (V : Value) (w : World) (ha : a < 4294967296) (hv : v < 256) (hx : whr a ≠ 1) (hB : BusW w D A base now cyc left np nr k h F V) :
    Calls Try.prog 32 #[.pointer (some ⟨A.b, 0, none⟩), .int .u32 (a : Int), .int .u8 (v : Int)] w fun e w' => e = .returned (.tuple #[]) ∧ Only D.has w w' := by
  have hwh := fun W => phWhere_calls a W ha
  have hbk := fun W => phBank_calls a W ha
  have hof := fun W => phOff_calls a W ha
  have hx1 : ((whr a : Int) == 1) = false := by rw [beq_eq_false_iff_ne]; omega
  generalize whr a = k1 at *
  go_enter Try.func32, Try.ntmps32
  go_wp2_with fail
  refine Cl.m (hwh _) ?_
  intro w1 hb1
  have hB1 := hB.low hb1
  have hO1 : Only D.has w w1 := Only.of hb1
  have c3 : w1.cell? ⟨A.b, 3, none⟩ = some (.pointer (some ⟨D.p, 0, none⟩)) := Blk.cell hB1.B 3
  clear hwh hB hb1
  go_wp2_with fail
  refine Cl.p (hbk _) ?_
  by_cases h5 : bnk a = 255
  · rw [h5]
    go_wp2_with fail
    refine wp_region_held_drew (S := fun W => W.cell? ⟨A.b, 3, none⟩ = some (.pointer (some ⟨D.p, 0, none⟩))) (by kernel_rfl) (by first | exact c3.drew | exact c3 | exact Below.drew c3) (fun hS0 => ?_)
    have hB1_0 : BusW w1.drew D A base now cyc left np nr k h F V := by first | exact hB1.drew | exact hB1
    have hO1_0 : Only D.has w w1.drew := by first | exact hO1.drew | exact hO1
    clear c3 hB1 hO1
    change wpAnyH _ _ _ _ _ 8 #[false, false, false, false, false, false, false, false] _ _
    generalize w1.drew = v0 at *
    refine wpAnyH_take (i := 0) (v := ?_) rfl (by kernel_rfl) (by kernel_rfl) (by kernel_rfl) (fun _ _ _ h => h) (Or.inl ⟨by rfl, ?_⟩) hS0 ?_
    rotate_left
    · (intro w hSw; (try dsimp only at hSw); go_simp; try with_reducible rfl)
    simp only [List.getElem_toArray, List.getElem_cons_zero, List.getElem_cons_succ, Act.put, List.setIfInBounds_toArray, List.set_cons_zero, List.set_cons_succ]
    refine wpAnyH_take (i := 1) (v := ?_) rfl (by kernel_rfl) (by kernel_rfl) (by kernel_rfl) (fun _ _ _ h => h) (Or.inl ⟨by rfl, ?_⟩) hS0 ?_
    rotate_left
    · (intro w hSw; (try dsimp only at hSw); go_simp; try with_reducible rfl)
    simp only [List.getElem_toArray, List.getElem_cons_zero, List.getElem_cons_succ, Act.put, List.setIfInBounds_toArray, List.set_cons_zero, List.set_cons_succ]
    refine wpAnyH_take (i := 2) (v := ?_) rfl (by kernel_rfl) (by kernel_rfl) (by kernel_rfl) (fun _ _ _ h => h) (Or.inl ⟨by rfl, ?_⟩) hS0 ?_
    rotate_left
    · (intro w hSw; (try dsimp only at hSw); go_simp; try with_reducible rfl)
    simp only [List.getElem_toArray, List.getElem_cons_zero, List.getElem_cons_succ, Act.put, List.setIfInBounds_toArray, List.set_cons_zero, List.set_cons_succ]
    refine wpAnyH_take (i := 3) (v := ?_) rfl (by kernel_rfl) (by kernel_rfl) (by kernel_rfl) (fun _ _ _ h => h) (Or.inl ⟨by rfl, ?_⟩) hS0 ?_
    rotate_left
    · (intro w hSw; (try dsimp only at hSw); go_simp; try with_reducible rfl)
    simp only [List.getElem_toArray, List.getElem_cons_zero, List.getElem_cons_succ, Act.put, List.setIfInBounds_toArray, List.set_cons_zero, List.set_cons_succ]
    refine wpAnyH_take (i := 4) (v := ?_) rfl (by kernel_rfl) (by kernel_rfl) (by kernel_rfl) (fun _ _ _ h => h) (Or.inl ⟨by rfl, ?_⟩) hS0 ?_
    rotate_left
    · (intro w hSw; (try dsimp only at hSw); go_simp; try with_reducible rfl)
    simp only [List.getElem_toArray, List.getElem_cons_zero, List.getElem_cons_succ, Act.put, List.setIfInBounds_toArray, List.set_cons_zero, List.set_cons_succ]
    refine wpAnyH_take (i := 6) (v := ?_) rfl (by kernel_rfl) (by kernel_rfl) (by kernel_rfl) (fun _ _ _ h => h) (Or.inl ⟨by rfl, ?_⟩) hS0 ?_
    rotate_left
    · (intro w hSw; (try dsimp only at hSw); go_simp; try with_reducible rfl)
    simp only [List.getElem_toArray, List.getElem_cons_zero, List.getElem_cons_succ, Act.put, List.setIfInBounds_toArray, List.set_cons_zero, List.set_cons_succ]
    refine wpAnyH_ready (rs := [5]) (by kernel_rfl) (by simp) ?_
    refine AllReadyH.cons rfl (fun K hK => ?_) AllReadyH.nil
    go_simp
    refine (hof _).mono ?_
    rintro e w' ⟨rfl, rfl⟩
    (try go_simp)
    refine hK.out _ _ hS0 (fun _ => ?_)
    clear hK K
    simp only [List.getElem_toArray, List.getElem_cons_zero, List.getElem_cons_succ, Act.put, List.setIfInBounds_toArray, List.set_cons_zero, List.set_cons_succ]
    refine wpAnyH_ready (rs := [7]) (by kernel_rfl) (by simp) ?_
    refine AllReadyH.cons rfl (fun K hK => ?_) AllReadyH.nil
    go_simp
    refine (hdWriteW D (a % 8192) v h np _ (by omega) hv (BusW.Dv hB1_0)).mono ?_
    rintro e v1 ⟨rfl, q2⟩
    have hNo := Only.trans hO1_0 q2
    have hne : ¬ D.has A.b := fun hh => by have h1 := hh.2; have h2 := BusW.o hB1_0; omega
    (try go_simp)
    refine hK.out _ _ (Blk.cell (Blk.only (BusW.B hB1_0) q2 hne) 3) (fun hS1 => ?_)
    clear hK K hS0
    simp only [List.getElem_toArray, List.getElem_cons_zero, List.getElem_cons_succ, Act.put, List.setIfInBounds_toArray, List.set_cons_zero, List.set_cons_succ]
    refine wpAnyH_done (by kernel_rfl) ?_ _
    have c3 := hS1
    clear hS1
    go_wp2_with fail
    go_end0
    exact ⟨rfl, hNo⟩
  · have i5 : ((bnk a : Int) == 255) = false := by rw [beq_eq_false_iff_ne]; omega
    go_wp2_with fail
    go_end0
    exact ⟨rfl, hO1⟩
set_option maxRecDepth 100000 in
set_option maxHeartbeats 4000000 in
theorem bsPeek_ram (D : DevA) (A : BusA) (base nr k h a : Nat) (now cyc left np : Int) (F : Nat → Int) (V : Value) (w : World) (ha : a < 4294967296) (hx : whr a = 1) (hB : BusW w D A base now cyc left np nr k h F V) :
    Calls Try.prog 46 #[.pointer (some ⟨A.b, 0, none⟩), .int .u32 (a : Int)] w fun e w' => e = .returned (.int .u8 (F (a % 8192))) ∧ Below w.heap.size w w' := by
  have hwh := fun W => phWhere_calls a W ha
  rw [hx] at hwh
  have hof := fun W => phOff_calls a W ha
  have his := bsIs_calls w hB
  go_enter Try.func46, Try.ntmps46
  go_wp2_with fail
  refine Cl.p his ?_
  clear his
  go_wp2_with fail
  refine Cl.m (hwh _) ?_
  intro w1 hb1
  have hB1 := hB.low hb1
  have c2 : w1.cell? ⟨A.b, 2, none⟩ = some (.pointer (some ⟨A.rm, 0, none⟩)) := Blk.cell hB1.B 2
  clear hwh hB
  go_wp2_with fail
  refine wp_region_held_drew (S := fun W => W.cell? ⟨A.b, 2, none⟩ = some (.pointer (some ⟨A.rm, 0, none⟩)) ∧ BusW W D A base now cyc left np nr k h F V ∧ Below w.heap.size w W) (by kernel_rfl) ⟨(by first | exact c2.drew | exact c2 | exact Below.drew c2), (by first | exact hB1.drew | exact hB1 | exact Below.drew hB1), (by first | exact hb1.drew | exact hb1 | exact Below.drew hb1)⟩ (fun hS0 => ?_)
  clear c2 hB1 hb1
  change wpAnyH _ _ _ _ _ 8 #[false, false, false, false, false, false, false, false] _ _
  generalize w1.drew = v0 at *
  refine wpAnyH_take (i := 0) (v := ?_) rfl (by kernel_rfl) (by kernel_rfl) (by kernel_rfl) (fun _ _ _ h => h) (Or.inl ⟨by rfl, ?_⟩) hS0 ?_
  rotate_left
  · (intro w hSw; (try dsimp only at hSw); go_simp; try with_reducible rfl)
  simp only [List.getElem_toArray, List.getElem_cons_zero, List.getElem_cons_succ, Act.put, List.setIfInBounds_toArray, List.set_cons_zero, List.set_cons_succ]
  refine wpAnyH_take (i := 1) (v := ?_) rfl (by kernel_rfl) (by kernel_rfl) (by kernel_rfl) (fun _ _ _ h => h) (Or.inl ⟨by rfl, ?_⟩) hS0 ?_
  rotate_left
  · (intro w hSw; (try dsimp only at hSw); go_simp; try with_reducible rfl)
  simp only [List.getElem_toArray, List.getElem_cons_zero, List.getElem_cons_succ, Act.put, List.setIfInBounds_toArray, List.set_cons_zero, List.set_cons_succ]
  refine wpAnyH_take (i := 2) (v := ?_) rfl (by kernel_rfl) (by kernel_rfl) (by kernel_rfl) (fun _ _ _ h => h) (Or.inl ⟨by rfl, ?_⟩) hS0 ?_
  rotate_left
  · (intro w hSw; (try dsimp only at hSw); go_simp; try with_reducible rfl)
  simp only [List.getElem_toArray, List.getElem_cons_zero, List.getElem_cons_succ, Act.put, List.setIfInBounds_toArray, List.set_cons_zero, List.set_cons_succ]
  refine wpAnyH_take (i := 3) (v := ?_) rfl (by kernel_rfl) (by kernel_rfl) (by kernel_rfl) (fun _ _ _ h => h) (Or.inl ⟨by rfl, ?_⟩) hS0 ?_
  rotate_left
  · (intro w hSw; (try dsimp only at hSw); go_simp; try with_reducible rfl)
  simp only [List.getElem_toArray, List.getElem_cons_zero, List.getElem_cons_succ, Act.put, List.setIfInBounds_toArray, List.set_cons_zero, List.set_cons_succ]
  refine wpAnyH_take (i := 4) (v := ?_) rfl (by kernel_rfl) (by kernel_rfl) (by kernel_rfl) (fun _ _ _ h => h) (Or.inl ⟨by rfl, ?_⟩) hS0 ?_
  rotate_left
  · (intro w hSw; (try dsimp only at hSw); go_simp; try with_reducible rfl)
  simp only [List.getElem_toArray, List.getElem_cons_zero, List.getElem_cons_succ, Act.put, List.setIfInBounds_toArray, List.set_cons_zero, List.set_cons_succ]
  refine wpAnyH_ready (rs := [5]) (by kernel_rfl) (by simp) ?_
  refine AllReadyH.cons rfl (fun K hK => ?_) AllReadyH.nil
  go_simp
  refine (hof _).mono ?_
  rintro e w' ⟨rfl, rfl⟩
  (try go_simp)
  refine hK.out _ _ hS0 (fun _ => ?_)
  clear hK K
  simp only [List.getElem_toArray, List.getElem_cons_zero, List.getElem_cons_succ, Act.put, List.setIfInBounds_toArray, List.set_cons_zero, List.set_cons_succ]
  refine wpAnyH_ready (rs := [6]) (by kernel_rfl) (by simp) ?_
  refine AllReadyH.cons rfl (fun K hK => ?_) AllReadyH.nil
  go_simp
  refine (rmRead_calls A.rm A.g nr (a % 8192) F _ (by omega) (BusW.R hS0.2.1)).mono ?_
  rintro e w' ⟨rfl, rfl⟩
  (try go_simp)
  refine hK.out _ _ hS0 (fun _ => ?_)
  clear hK K
  simp only [List.getElem_toArray, List.getElem_cons_zero, List.getElem_cons_succ, Act.put, List.setIfInBounds_toArray, List.set_cons_zero, List.set_cons_succ]
  refine wpAnyH_take (i := 7) (v := ?_) rfl (by kernel_rfl) (by kernel_rfl) (by kernel_rfl) (fun _ _ _ h => h) (Or.inl ⟨by rfl, ?_⟩) hS0 ?_
  rotate_left
  · (intro w hSw; (try dsimp only at hSw); go_simp; try with_reducible rfl)
  simp only [List.getElem_toArray, List.getElem_cons_zero, List.getElem_cons_succ, Act.put, List.setIfInBounds_toArray, List.set_cons_zero, List.set_cons_succ]
  refine wpAnyH_done (by kernel_rfl) ?_ _
  have c2 := hS0.1
  have hB1 := hS0.2.1
  have hb1 := hS0.2.2
  clear hS0
  go_wp2_with fail
  go_ret
  exact ⟨rfl, hb1⟩
theorem bnk_ram (a : Nat) (h : whr a = 1) : ((bnk a : Int) == 255) = false := by
  rw [beq_eq_false_iff_ne]
  intro e
  have e : bnk a = 255 := by omega
  rw [whr_hard a e] at h
  revert h
  unfold whO
  repeat (first | omega | split)
theorem bsLoad_ram (D : DevA) (A : BusA) (base nr k h a : Nat) (now cyc left np : Int) (F : Nat → Int) (V : Value) (w : World) (ha : a < 4294967296) (hx : whr a = 1) (hB : BusW w D A base now cyc left np nr k h F V) :
    Calls Try.prog 34 #[.pointer (some ⟨A.b, 0, none⟩), .int .u32 (a : Int)] w fun e w' => e = .returned (.int .u8 (F (a % 8192))) ∧ Below w.heap.size w w' := by
  have hbk := fun W => phBank_calls a W ha
  have i5 := bnk_ram a hx
  have hpk := bsPeek_ram D A base nr k h a now cyc left np F V w ha hx hB
  clear hx hB
  go_enter Try.func34, Try.ntmps34
  go_wp2_with fail
  refine Cl.p (hbk _) ?_
  go_wp2_with fail
  refine Cl.m hpk ?_
  intro w1 hb1
  go_wp2_with fail
  go_ret
  exact ⟨rfl, hb1⟩
end Go.Proofs.Ytemfdkoipeedeaa

/-
  Package bus: Write, Read.
-/
namespace Go.Proofs.Ytemfdkoipeedeaa
open Go.RowKit Pl
theorem infoAcc : (Try.prog.info? 86).map (fun i => (i.zero, i.size, i.bytes)) = some (some (.agg #[.int .i64 0, .int .u32 0, .int .u8 0, .bool false, .int .u8 0]), 5, 16) := by kernel_rfl
theorem adr_same (a : Nat) (h : a < 2097152) : adr (bnk a) (a % 8192) = a := by rw [adr_back, Nat.mod_eq_of_lt h]
set_option maxRecDepth 100000 in
set_option maxHeartbeats 8000000 in
theorem bsWrite_ram (D : DevA) (A : BusA) (base nr k h a : Nat) (now cyc left np v kind : Int) (F : Nat → Int) (V : Value) (w : World) (ha : a < 2097152) (hx : whr a = 1) (hn : nr < 1000) (hk : k < 1000) (l1 : 0 < left) (l2 : left ≤ 100) (t1 : 0 ≤ np) (t2 : np ≤ now) (t3 : now ≤ 10000) (y1 : 0 ≤ cyc) (y2 : cyc ≤ 10000)
    (hB : BusW w D A base now cyc left np nr k h F V) :
    Calls Try.prog 10 #[.pointer (some ⟨A.b, 0, none⟩), .int .u32 (a : Int), .int .u8 v, .int .u8 kind] w fun e w' => e = .returned (.tuple #[]) ∧ (∃ V', BusW w' D A base (now + 12) (cyc + 1) (left - 1) now (nr + 1) (k + 1) h (updF F (a % 8192) v) V') ∧ Below D.l w w' ∧ KeepU base w w' := by
  obtain ⟨i0, hi, hz0, hz1, hz2⟩ := info_parts infoAcc
  have hbg := bsBegin_calls D A base nr k h a now cyc left np F V false w (by omega) (by rw [hx]; rfl) l1 l2 t1 t2 t3 y1 y2 hB
  have hbk := fun W => phBank_calls a W (by omega)
  have hof := fun W => phOff_calls a W (by omega)
  have had := fun W => phAddr_calls (bnk a) (a % 8192) W (bnk_lt a) (by omega)
  rw [adr_same a ha] at had
  have ho := hB.o
  have hl := hB.lp
  have hlw : D.l ≤ w.heap.size := by omega
  have hS : ∀ k, Bz D base k → D.l ≤ k ∧ k < base := fun k h => h
  clear hB
  go_enter Try.func10, Try.ntmps10
  go_wp2_with fail
  refine hbg.mono ?_
  clear hbg
  rintro e w3 ⟨rfl, hB3, ho3⟩
  rw [show now + ckL false = now + 12 from rfl, show cyc + 1 + ixB false = cyc + 1 from by show cyc + 1 + 0 = _; omega] at hB3
  have hL3 : Below D.l w w3 := ho3.below hlw (fun k e => e.1)
  have hK3 : KeepU base w w3 := KeepU.only ho3 (fun k e => e.2)
  have hpt := bsPut_ram D A base nr k h a (now + 12) (cyc + 1) (left - 1) now v F V w3 (by omega) hx hn hB3
  clear hB3 ho3 hx
  go_wp2_with fail
  refine Cl.p (hbk _) ?_
  go_wp2_with fail
  refine Cl.p (hof _) ?_
  go_wp2_with fail
  refine Cl.p (had _) ?_
  go_wp2_with fail
  refine hpt.mono ?_
  clear hpt hbk hof had
  rintro e w4 ⟨rfl, hB4, ho4⟩
  have hL4 := hL3.trans (ho4.below (by have := hL3.size; omega) (fun k e => e.1))
  have hK4 := hK3.trans (KeepU.only ho4 (fun k e => e.2))
  obtain ⟨rows, hT⟩ := hB4.T
  have hba : Below w4.heap.size w4 (w4.alloc (.cells #[.int .i64 now, .int .u32 (a : Int), .int .u8 kind, .bool true, .int .u8 v] 86)) := Bl.alloc (Below.refl _ _) _
  have hB5 := hB4.low hba
  have hT5 := own_low hT hba
  have c6 : w4.cell? ⟨A.b, 6, none⟩ = some V := Blk.cell hB4.B 6
  have c65 : (w4.alloc (.cells #[.int .i64 now, .int .u32 (a : Int), .int .u8 kind, .bool true, .int .u8 v] 86)).cell? ⟨A.b, 6, none⟩ = some V := Blk.cell hB5.B 6
  have hz4 := hL4.size
  have hblk := heap_alloc_new w4 (.cells #[.int .i64 now, .int .u32 (a : Int), .int .u8 kind, .bool true, .int .u8 v] 86)
  have ho5 := hB5.o
  go_wp2_with (at_builtin; refine wpList_append_own _ rfl _ _ 74 rfl base 86 i0 (.agg #[.int .i64 0, .int .u32 0, .int .u8 0, .bool false, .int .u8 0]) 5 16 Try.underlying74 hi hz0 hz1 hz2 rfl (by decide) V k rows rfl hT5 ⟨w4.heap.size, 0, none⟩ 1 1 [.int .i64 now, .int .u32 (a : Int), .int .u8 kind, .bool true, .int .u8 v] rfl rfl (World.news_of_block (cs := #[.int .i64 now, .int .u32 (a : Int), .int .u8 kind, .bool true, .int .u8 v]) (t := 86) (fr := (0, 0)) hblk) (by simp [Value.oneCell']) (by unfold maxLen; omega) (by omega) (by omega) ?_)
  intro v1 w6 hown1 hgrow1 _
  obtain ⟨ob, oc, rfl, hob, hobl⟩ := hown1.form (by omega)
  obtain ⟨hN, hNb⟩ := hB5.setT hT5 hgrow1 hown1
  have hB6 : Blk w6 A.b 76 (bsRow A D (left - 1) V) := Blk.below hB5.B hNb (by omega)
  have f6 : w6.frozen? ⟨A.b, 6, none⟩ = false := Blk.frozen hB6 6
  have d6 : w6.cell? ⟨A.b, 6, none⟩ = some V := Blk.cell hB6 6
  have hK : KeepU base w (w6.setCell ⟨A.b, 6, none⟩ (.slice (some ⟨ob, 0, none⟩) (k + 1) oc)) := ((hK4.trans (fun _ _ _ hu => own_low hu hba)).trans (KeepU.grown hT5 hgrow1)).trans (KeepU.only (Only.setCell (S := fun j => j = A.b) (Only.refl _ _) ⟨A.b, 6, none⟩ rfl (.slice (some ⟨ob, 0, none⟩) (k + 1) oc)) (fun j e => by have e : j = A.b := e; omega))
  have hLw : Below D.l w (w6.setCell ⟨A.b, 6, none⟩ (.slice (some ⟨ob, 0, none⟩) (k + 1) oc)) := ((hL4.trans (hba.mono (by omega))).trans (hNb.mono (by omega))).setCell (p := ⟨A.b, 6, none⟩) (by show D.l ≤ A.b; omega) _
  go_wp2_with fail
  go_end0
  exact ⟨rfl, ⟨_, hN⟩, hLw, hK⟩
set_option maxRecDepth 100000 in
set_option maxHeartbeats 8000000 in
theorem bsRead_ram (D : DevA) (A : BusA) (base nr k h a : Nat) (now cyc left np kind : Int) (F : Nat → Int) (V : Value) (w : World) (ha : a < 2097152) (hx : whr a = 1) (hk : k < 1000) (l1 : 0 < left) (l2 : left ≤ 100) (t1 : 0 ≤ np) (t2 : np ≤ now) (t3 : now ≤ 10000) (y1 : 0 ≤ cyc) (y2 : cyc ≤ 10000)
    (hB : BusW w D A base now cyc left np nr k h F V) :
    Calls Try.prog 13 #[.pointer (some ⟨A.b, 0, none⟩), .int .u32 (a : Int), .int .u8 kind] w fun e w' => e = .returned (.int .u8 (F (a % 8192))) ∧ (∃ V', BusW w' D A base (now + 12) (cyc + 1) (left - 1) now nr (k + 1) h F V') ∧ Below D.l w w' ∧ KeepU base w w' := by
  obtain ⟨i0, hi, hz0, hz1, hz2⟩ := info_parts infoAcc
  have hbg := bsBegin_calls D A base nr k h a now cyc left np F V false w (by omega) (by rw [hx]; rfl) l1 l2 t1 t2 t3 y1 y2 hB
  have hbk := fun W => phBank_calls a W (by omega)
  have hof := fun W => phOff_calls a W (by omega)
  have had := fun W => phAddr_calls (bnk a) (a % 8192) W (bnk_lt a) (by omega)
  rw [adr_same a ha] at had
  have ho := hB.o
  have hl := hB.lp
  have hlw : D.l ≤ w.heap.size := by omega
  clear hB
  go_enter Try.func13, Try.ntmps13
  go_wp2_with fail
  refine hbg.mono ?_
  clear hbg
  rintro e w3 ⟨rfl, hB3, ho3⟩
  rw [show now + ckL false = now + 12 from rfl, show cyc + 1 + ixB false = cyc + 1 from by show cyc + 1 + 0 = _; omega] at hB3
  have hL3 : Below D.l w w3 := ho3.below hlw (fun k e => e.1)
  have hK3 : KeepU base w w3 := KeepU.only ho3 (fun k e => e.2)
  have hld := bsLoad_ram D A base nr k h a (now + 12) (cyc + 1) (left - 1) now F V w3 (by omega) hx hB3
  obtain ⟨fv, hfv⟩ : ∃ x, F (a % 8192) = x := ⟨_, rfl⟩
  rw [hfv] at hld
  have Hfv := hide hfv
  clear ho3 hx hfv
  go_wp2_with fail
  refine Cl.p (hbk _) ?_
  go_wp2_with fail
  refine Cl.p (hof _) ?_
  go_wp2_with fail
  refine Cl.p (had _) ?_
  go_wp2_with fail
  refine Cl.m hld ?_
  clear hld hbk hof had
  intro w4 hb4
  have hB4 := hB3.low hb4
  have hL4 := hL3.trans (hb4.mono (by have := hL3.size; omega))
  have hK4 := hK3.trans (fun _ _ _ hu => own_low hu hb4)
  clear hB3
  obtain ⟨rows, hT⟩ := hB4.T
  have hba : Below w4.heap.size w4 (w4.alloc (.cells #[.int .i64 now, .int .u32 (a : Int), .int .u8 kind, .bool false, .int .u8 fv] 86)) := Bl.alloc (Below.refl _ _) _
  have hB5 := hB4.low hba
  have hT5 := own_low hT hba
  have c6 : w4.cell? ⟨A.b, 6, none⟩ = some V := Blk.cell hB4.B 6
  have c65 : (w4.alloc (.cells #[.int .i64 now, .int .u32 (a : Int), .int .u8 kind, .bool false, .int .u8 fv] 86)).cell? ⟨A.b, 6, none⟩ = some V := Blk.cell hB5.B 6
  have hz4 := hL4.size
  have hblk := heap_alloc_new w4 (.cells #[.int .i64 now, .int .u32 (a : Int), .int .u8 kind, .bool false, .int .u8 fv] 86)
  have ho5 := hB5.o
  go_wp2_with (at_builtin; refine wpList_append_own _ rfl _ _ 74 rfl base 86 i0 (.agg #[.int .i64 0, .int .u32 0, .int .u8 0, .bool false, .int .u8 0]) 5 16 Try.underlying74 hi hz0 hz1 hz2 rfl (by decide) V k rows rfl hT5 ⟨w4.heap.size, 0, none⟩ 1 1 [.int .i64 now, .int .u32 (a : Int), .int .u8 kind, .bool false, .int .u8 fv] rfl rfl (World.news_of_block (cs := #[.int .i64 now, .int .u32 (a : Int), .int .u8 kind, .bool false, .int .u8 fv]) (t := 86) (fr := (0, 0)) hblk) (by simp [Value.oneCell']) (by unfold maxLen; omega) (by omega) (by omega) ?_)
  intro v1 w6 hown1 hgrow1 _
  obtain ⟨ob, oc, rfl, hob, hobl⟩ := hown1.form (by omega)
  obtain ⟨hN, hNb⟩ := hB5.setT hT5 hgrow1 hown1
  have hB6 : Blk w6 A.b 76 (bsRow A D (left - 1) V) := Blk.below hB5.B hNb (by omega)
  have f6 : w6.frozen? ⟨A.b, 6, none⟩ = false := Blk.frozen hB6 6
  have d6 : w6.cell? ⟨A.b, 6, none⟩ = some V := Blk.cell hB6 6
  have hK : KeepU base w (w6.setCell ⟨A.b, 6, none⟩ (.slice (some ⟨ob, 0, none⟩) (k + 1) oc)) := ((hK4.trans (fun _ _ _ hu => own_low hu hba)).trans (KeepU.grown hT5 hgrow1)).trans (KeepU.only (Only.setCell (S := fun j => j = A.b) (Only.refl _ _) ⟨A.b, 6, none⟩ rfl (.slice (some ⟨ob, 0, none⟩) (k + 1) oc)) (fun j e => by have e : j = A.b := e; omega))
  have hLw : Below D.l w (w6.setCell ⟨A.b, 6, none⟩ (.slice (some ⟨ob, 0, none⟩) (k + 1) oc)) := ((hL4.trans (hba.mono (by omega))).trans (hNb.mono (by omega))).setCell (p := ⟨A.b, 6, none⟩) (by show D.l ≤ A.b; omega) _
  go_wp2_with fail
  go_ret
  exact ⟨by rw [Hfv.out]; rfl, ⟨_, hN⟩, hLw, hK⟩
end Go.Proofs.Ytemfdkoipeedeaa

/-
  Package bus: Write where no work memory is; Ram of an empty one.
-/
namespace Go.Proofs.Ytemfdkoipeedeaa
open Go.RowKit Pl
set_option maxRecDepth 100000 in
set_option maxHeartbeats 8000000 in
theorem bsWrite_not (D : DevA) (A : BusA) (base nr k h a v : Nat) (now cyc left np kind : Int) (F : Nat → Int) (V : Value) (w : World) (ha : a < 2097152) (hv : v < 256) (hx : whr a ≠ 1) (hk : k < 1000) (l1 : 0 < left) (l2 : left ≤ 100) (t1 : 0 ≤ np) (t2 : np ≤ now) (t3 : now ≤ 10000) (y1 : 0 ≤ cyc) (y2 : cyc ≤ 10000)
    (hB : BusW w D A base now cyc left np nr k h F V) :
    Calls Try.prog 10 #[.pointer (some ⟨A.b, 0, none⟩), .int .u32 (a : Int), .int .u8 (v : Int), .int .u8 kind] w fun e w' => e = .returned (.tuple #[]) ∧ (∃ left' V', Blk w' A.b 76 (bsRow A D left' V')) ∧ RamB w' A.rm A.g nr F ∧ Below D.l w w' ∧ A.b < w'.heap.size := by
  obtain ⟨i0, hi, hz0, hz1, hz2⟩ := info_parts infoAcc
  have hbg := bsBegin_calls D A base nr k h a now cyc left np F V (exO (whr a)) w (by omega) rfl l1 l2 t1 t2 t3 y1 y2 hB
  have hbk := fun W => phBank_calls a W (by omega)
  have hof := fun W => phOff_calls a W (by omega)
  have had := fun W => phAddr_calls (bnk a) (a % 8192) W (bnk_lt a) (by omega)
  rw [adr_same a ha] at had
  have ho := hB.o
  have hl := hB.lp
  have hlw : D.l ≤ w.heap.size := by omega
  clear hB
  go_enter Try.func10, Try.ntmps10
  go_wp2_with fail
  refine hbg.mono ?_
  clear hbg
  rintro e w3 ⟨rfl, hB3, ho3⟩
  have hL3 : Below D.l w w3 := ho3.below hlw (fun k e => e.1)
  have hpt := bsPut_not D A base nr k h a v _ _ (left - 1) now F V w3 (by omega) hv hx hB3
  obtain ⟨rows, hT3⟩ := hB3.T
  have hBb := hB3.B
  have hR3 := hB3.R
  have ho7 := hB3.o
  clear hB3 ho3 hx
  go_wp2_with fail
  refine Cl.p (hbk _) ?_
  go_wp2_with fail
  refine Cl.p (hof _) ?_
  go_wp2_with fail
  refine Cl.p (had _) ?_
  go_wp2_with fail
  refine hpt.mono ?_
  clear hpt hbk hof had
  rintro e w4 ⟨rfl, ho4⟩
  have hz3 := hL3.size
  have hL4 := hL3.trans (ho4.below (by omega) (fun k e => e.1))
  have n : ∀ k, D.p < k → ¬ D.has k := fun k h1 h2 => by have := h2.2; omega
  have hB4 : Blk w4 A.b 76 (bsRow A D (left - 1) V) := Blk.only hBb ho4 (n _ (by omega))
  have hR4 : RamB w4 A.rm A.g nr F := hR3.only ho4 (n _ (by omega)) (n _ (by omega))
  have hT4 : w4.ownsRow base 86 5 V k rows := own_only hT3 ho4 (fun k e => by have := e.2; omega)
  have hz4 := ho4.size
  clear hBb hR3 hT3 ho4
  have hba : Below w4.heap.size w4 (w4.alloc (.cells #[.int .i64 now, .int .u32 (a : Int), .int .u8 kind, .bool true, .int .u8 (v : Int)] 86)) := Bl.alloc (Below.refl _ _) _
  have hB5 : Blk (w4.alloc (.cells #[.int .i64 now, .int .u32 (a : Int), .int .u8 kind, .bool true, .int .u8 (v : Int)] 86)) A.b 76 (bsRow A D (left - 1) V) := Blk.alloc hB4 _
  have hR5 := hR4.low hba
  have hT5 := own_low hT4 hba
  have c6 : w4.cell? ⟨A.b, 6, none⟩ = some V := Blk.cell hB4 6
  have hblk := heap_alloc_new w4 (.cells #[.int .i64 now, .int .u32 (a : Int), .int .u8 kind, .bool true, .int .u8 (v : Int)] 86)
  have hz5 := hba.size
  go_wp2_with (at_builtin; refine wpList_append_own _ rfl _ _ 74 rfl base 86 i0 (.agg #[.int .i64 0, .int .u32 0, .int .u8 0, .bool false, .int .u8 0]) 5 16 Try.underlying74 hi hz0 hz1 hz2 rfl (by decide) V k rows rfl hT5 ⟨w4.heap.size, 0, none⟩ 1 1 [.int .i64 now, .int .u32 (a : Int), .int .u8 kind, .bool true, .int .u8 (v : Int)] rfl rfl (World.news_of_block (cs := #[.int .i64 now, .int .u32 (a : Int), .int .u8 kind, .bool true, .int .u8 (v : Int)]) (t := 86) (fr := (0, 0)) hblk) (by simp [Value.oneCell']) (by unfold maxLen; omega) (by omega) (by omega) ?_)
  intro v1 w6 hown1 hgrow1 _
  obtain ⟨ob, oc, rfl, hob, hobl⟩ := hown1.form (by omega)
  have hNb : Below base (w4.alloc (.cells #[.int .i64 now, .int .u32 (a : Int), .int .u8 kind, .bool true, .int .u8 (v : Int)] 86)) w6 := (Below.refl base _).grown hgrow1 (by omega) (fun k hk => (own_blk hT5 hk).1)
  have hB6 : Blk w6 A.b 76 (bsRow A D (left - 1) V) := Blk.below hB5 hNb (by omega)
  have hR6 := hR5.below hNb (by omega) (by omega)
  have f6 : w6.frozen? ⟨A.b, 6, none⟩ = false := Blk.frozen hB6 6
  have d6 : w6.cell? ⟨A.b, 6, none⟩ = some V := Blk.cell hB6 6
  have hLw : Below D.l w (w6.setCell ⟨A.b, 6, none⟩ (.slice (some ⟨ob, 0, none⟩) (k + 1) oc)) := ((hL4.trans (hba.mono (by omega))).trans (hNb.mono (by omega))).setCell (p := ⟨A.b, 6, none⟩) (by show D.l ≤ A.b; omega) _
  have hB7 : Blk (w6.setCell ⟨A.b, 6, none⟩ (.slice (some ⟨ob, 0, none⟩) (k + 1) oc)) A.b 76 (bsRow A D (left - 1) (.slice (some ⟨ob, 0, none⟩) (k + 1) oc)) := Blk.set_ hB6 6 _
  go_wp2_with fail
  go_end0
  exact ⟨rfl, ⟨_, _, hB7⟩, hR6.only (Only.setCell (S := fun j => j = A.b) (Only.refl _ _) ⟨A.b, 6, none⟩ rfl _) (by omega) (by omega), hLw, Blk.lt hB7⟩
theorem rmPieces_zero (h g m : Nat) (w : World) (hR : RamB w h g m (fun _ => 0)) :
    Calls Try.prog 35 #[.pointer (some ⟨h, 0, none⟩)] w fun e w' => e = .returned (.slice none 0 0) ∧ Below w.heap.size w w' := by
  go_enter Try.func35, Try.ntmps35
  go_wp2_with fail
  go_loopw [3, 4, 8] (fun v q t wr => ∃ (i : Nat), i ≤ 8192 ∧ v = .slice none 0 0 ∧ t = .int .i64 (i : Int) ∧ q = .bool false ∧ Below w.heap.size w wr) (fun _ _ t _ => 8192 - (intOf t).toNat)
  case atStart => exact ⟨0, by omega, rfl, rfl, rfl, Below.refl _ _⟩
  case round =>
    obtain ⟨i, hin, rfl, rfl, rfl, hbr⟩ := hrel
    have hRr := hR.low hbr
    by_cases hlt : i < 8192
    · have hlt' : (i : Int) < 8192 := by omega
      have hrd := rmRead_calls h g m i (fun _ => 0) wr (by omega) hRr
      clear hR hRr
      go_wp2_with fail
      refine Cl.p hrd ?_
      clear hrd
      go_wp2_with fail
      go_roundw
      case rel => exact ⟨i + 1, by omega, rfl, by go_num, rfl, hbr⟩
      case measure => simp [intOf]; omega
    · obtain rfl : i = 8192 := by omega
      go_wp2_with fail
      go_ret
      exact ⟨rfl, hbr⟩
theorem bsRam_zero (D : DevA) (A : BusA) (nr : Nat) (left : Int) (V : Value) (w : World) (hB : Blk w A.b 76 (bsRow A D left V)) (hR : RamB w A.rm A.g nr (fun _ => 0)) :
    Calls Try.prog 14 #[.pointer (some ⟨A.b, 0, none⟩)] w fun e w' => e = .returned (.slice none 0 0) ∧ Below w.heap.size w w' := by
  have c0 : w.cell? ⟨A.b, 0, none⟩ = some (.pointer (some ⟨A.ck, 0, none⟩)) := Blk.cell hB 0
  have c2 : w.cell? ⟨A.b, 2, none⟩ = some (.pointer (some ⟨A.rm, 0, none⟩)) := Blk.cell hB 2
  have his : Calls Try.prog 26 #[.pointer (some ⟨A.b, 0, none⟩)] w fun e w' => e = .returned (.bool true) ∧ w = w' := by
    go_enter Try.func26, Try.ntmps26
    go_wp2_with fail
    go_ret
    exact ⟨rfl, rfl⟩
  have hpc := rmPieces_zero A.rm A.g nr w hR
  clear hR hB
  go_enter Try.func14, Try.ntmps14
  go_wp2_with fail
  refine Cl.p his ?_
  go_wp2_with fail
  refine Cl.m hpc ?_
  intro w1 hb1
  go_wp2_with fail
  go_ret
  exact ⟨rfl, hb1⟩
end Go.Proofs.Ytemfdkoipeedeaa

