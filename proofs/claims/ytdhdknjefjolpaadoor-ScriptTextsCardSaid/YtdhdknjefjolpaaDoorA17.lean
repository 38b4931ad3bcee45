/-
  The texts Sc42, Sc43 of the proofs about scripts, as one file (they are merged by a program).
-/
import Derived.Test.YtdhdknjefjolpaaDoorA14
import Derived.Test.YtdhdknjefjolpaaDoorA16
section
/-
  strings.Builder inside script.writer: what a write leaves as it was; Len; String.
-/
namespace Go.Proofs.YtdhdknjefjolpaaDoor
set_option linter.unusedSimpArgs false
set_option linter.unusedVariables false
set_option maxRecDepth 10000
open Go.RowKit Go.Shelf Pl
/-- Where the bytes lie behind an append: where they lay, or in a block of their own. -/
theorem append_string_place {P : Program} (w : World) (base : Nat) (t u ty e : TypeId) (i : TypeInfo) (ht : P.underlying t = some (.slice e)) (hu : P.underlying u = some .string) (hi : P.info? e = some i) (hz : i.zero = some (.int .u8 0)) (hsize : i.size = 1) (hby : i.bytes = 1)
    (v : Value) (n : Nat) (xs : List Value) (hown : w.ownsRow base e 1 v n xs) (s : ByteArray) (hbytes : n + s.size ≤ 140737488355328) (v' : Value) (w' : World)
    (hr : (Builtin.append_ #[t, u] ty #[v, .string s]).run P w = .ok v' w') : ∀ g, v'.ownBlock = some g → v.ownBlock = some g ∨ g = w.heap.size := by
  have hxl : xs.length = n := by simpa using hown.1
  rcases hown.2 with ⟨rfl, rfl⟩ | ⟨g, cap, cur, rfl, hbg, hg, hnc, hcm, hcs, htake⟩
  · have hx : xs = [] := List.eq_nil_of_length_eq_zero hxl
    subst hx
    by_cases hm : s.size = 0
    · have hf := Lib.run_firstCells_string (P := P) w 1 s
      rw [hm] at hf
      simp [Builtin.append_, run_underlying ht, run_underlying hu, sizeOf, typeInfo, hi, hsize, Builtin.lenOf, hm, hf] at hr
      obtain ⟨rfl, _⟩ := hr
      intro g hg
      cases hg
    · have hr2 := run_append_nil_string (P := P) w t u ty e i (.int .u8 0) ht hu hi hz s (by omega) (by omega) (by rw [hby]; omega)
      rw [hr] at hr2
      injection hr2 with h1 _
      subst h1
      intro g hg
      cases hg
      exact Or.inr rfl
  · by_cases hroom : n + s.size ≤ cap
    · have hcs' : cur.size = cap := by simpa using hcs
      have hr2 := Lib.run_append_room_string (P := P) w t u ty e i ht hu hi hsize g n cap cur hg s hroom (by omega)
      rw [hr] at hr2
      injection hr2 with h1 _
      subst h1
      intro k hk
      exact Or.inl hk
    · have holds : ∀ j u, xs[j]? = some u → w.cell? ((⟨g, 0, none⟩ : Addr).add j) = some u := hown.cells (g := g) rfl
      have hr2 := Lib.run_append_grow_string (P := P) w t u ty e i (.int .u8 0) ht hu hi hz ⟨g, 0, none⟩ n cap xs (by rw [hsize]; simpa using hxl) holds s (by omega) (by omega) (by rw [hby]; exact growslice_fits (by omega) (by omega))
      rw [hr] at hr2
      injection hr2 with h1 _
      subst h1
      intro k hk
      cases hk
      exact Or.inr rfl
theorem wpList_append_string_at {P : Program} (w : World) {ops : Array Oper} {rest : List Oper} {o : Oper} {a : Act} {Q : Exit → Act → World → Prop} (hgd : o.guard = none) (sl x : Operand) (t u : TypeId)
    (ho : o.op = .call { callee := .builtin .append, args := #[sl, x], argTypes := #[t, u] })
    (base : Nat) (e : TypeId) (i : TypeInfo) (ht : P.underlying t = some (.slice e)) (hu : P.underlying u = some .string) (hi : P.info? e = some i) (hz : i.zero = some (.int .u8 0))
    (hsize : i.size = 1) (hby : i.bytes = 1)
    (v : Value) (n : Nat) (xs : List Value) (hs : a.eval sl = v) (hown : w.ownsRow base e 1 v n xs) (s : ByteArray) (hx : a.eval x = .string s)
    (h63 : n + s.size ≤ maxLen) (hbytes : n + s.size ≤ 140737488355328) (hbase : base ≤ w.heap.size)
    (h : ∀ v' w', w'.ownsRow base e 1 v' (n + s.size) (xs ++ Lib.strCells s) → w.grownBy w' v.ownBlock → (v' = .slice none 0 0 ↔ v = .slice none 0 0 ∧ s.size = 0) → (∀ g, v'.ownBlock = some g → v.ownBlock = some g ∨ g = w.heap.size) → wpList P ops Q rest (a.put o.dst v') w') : wpList P ops Q (o :: rest) a w := by
  refine wpList_plain hgd fun K hK => ?_
  obtain ⟨v', w', hr, h2, h3, h4⟩ := Lib.run_append_own_string (P := P) w base t u o.type e i ht hu hi hz hsize hby v n xs hown s h63 hbytes hbase
  have h5 := append_string_place w base t u o.type e i ht hu hi hz hsize hby v n xs hown s hbytes v' w' hr
  unfold Oper.wp execOp
  simp only [ho, resolve, invoke, builtin, Sem.run_bind, Sem.run_pure, Result.andThen_ok, List.map_toArray, List.map_cons, List.map_nil, hs, hx, hr]
  exact hK _ _ (h v' w' h2 h3 h4 h5)
/-- A writer that holds bytes, and the block in which they lie. -/
def WrG (B b : Nat) (l : List UInt8) (w : World) (gb : Option Nat) : Prop := WrB B b l w ∧ ∃ v, w.cell? ⟨b, 1, none⟩ = some v ∧ v.ownBlock = gb
/-- So much may a write change. -/
def WSt (b : Nat) (gb : Option Nat) (w : World) (gb' : Option Nat) (w' : World) : Prop := Only (fun k => k = b ∨ some k = gb) w w' ∧ (gb' = gb ∨ ∃ g, gb' = some g ∧ w.heap.size ≤ g)
theorem WSt.refl (b : Nat) (gb : Option Nat) (w : World) : WSt b gb w gb w := ⟨Only.refl _ _, Or.inl rfl⟩
theorem Only.weak {S T : Nat → Prop} {w w' : World} (h : Only S w w') (hs : ∀ k, k < w.heap.size → S k → T k) : Only T w w' := ⟨h.os, h.tape, h.output, h.size, fun k hk hn => h.block k hk fun e => hn (hs k hk e)⟩
theorem Only.trans' {S T : Nat → Prop} {a b c : World} (h : Only S a b) (k : Only T b c) (hs : ∀ k, k < a.heap.size → T k → S k) : Only S a c :=
  ⟨k.os.trans h.os, k.tape.trans h.tape, k.output.trans h.output, Nat.le_trans h.size k.size, fun i hi hn => (k.block i (Nat.lt_of_lt_of_le hi h.size) fun e => hn (hs i hi e)).trans (h.block i hi hn)⟩
theorem WSt.trans {b : Nat} {g0 g1 g2 : Option Nat} {w0 w1 w2 : World} (h : WSt b g0 w0 g1 w1) (k : WSt b g1 w1 g2 w2) : WSt b g0 w0 g2 w2 := by
  refine ⟨Only.trans' h.1 k.1 ?_, ?_⟩
  · rintro x hx (e | e)
    · exact Or.inl e
    · rcases h.2 with e1 | ⟨g, e1, hg⟩
      · exact Or.inr (e.trans e1)
      · rw [e1] at e
        cases e
        omega
  · have hs := h.1.size
    rcases k.2 with e | ⟨g, e, hg⟩
    · rw [e]; exact h.2
    · exact Or.inr ⟨g, e, by omega⟩
theorem WSt.low {b : Nat} {g0 g1 : Option Nat} {w0 w1 w2 : World} (h : WSt b g0 w0 g1 w1) (k : Below w1.heap.size w1 w2) : WSt b g0 w0 g1 w2 :=
  ⟨Only.trans' h.1 (Only.of k (S := fun _ => False)) (fun _ _ e => e.elim), h.2⟩
theorem WSt.head {b : Nat} {g0 g1 : Option Nat} {w0 w1 w2 : World} (k : Below w0.heap.size w0 w1) (h : WSt b g0 w1 g1 w2) : WSt b g0 w0 g1 w2 := by
  refine ⟨Only.trans' (Only.of k (S := fun x => x = b ∨ some x = g0)) h.1 (fun _ _ e => e), ?_⟩
  have := k.size
  rcases h.2 with e | ⟨g, e, hg⟩
  · exact Or.inl e
  · exact Or.inr ⟨g, e, by omega⟩
theorem WrG.parts {B b : Nat} {l : List UInt8} {w : World} {gb : Option Nat} (h : WrG B b l w gb) : ∃ p v, Lib.BuilderAt 78 5 B b p (Lib.byteCells l) w ∧ w.heap[b]? = some (.cells #[p, v] 78 (0, 0)) ∧ w.ownsRow B 5 1 v l.length (Lib.byteCells l) ∧ v.ownBlock = gb ∧ gb ≠ some b ∧ B ≤ b := by
  obtain ⟨hw, v, hv, hg⟩ := h
  have key : ∀ p, Lib.BuilderAt 78 5 B b p (Lib.byteCells l) w → ∃ p v, Lib.BuilderAt 78 5 B b p (Lib.byteCells l) w ∧ w.heap[b]? = some (.cells #[p, v] 78 (0, 0)) ∧ w.ownsRow B 5 1 v l.length (Lib.byteCells l) ∧ v.ownBlock = gb ∧ gb ≠ some b ∧ B ≤ b := fun p h => by
    have h0 := h
    obtain ⟨hB, v1, hbk, hown, hne⟩ := h
    have c1 : w.cell? ⟨b, 1, none⟩ = some v1 := by rw [Lib.cell_of_heap hbk]; rfl
    rw [c1] at hv
    cases hv
    rw [Lib.byteCells_length] at hown
    exact ⟨p, v, h0, hbk, hown, hg, by rw [← hg]; exact hne, hB⟩
  rcases hw with h | h
  · exact key _ h
  · exact key _ h
theorem WrG.lt {B b : Nat} {l : List UInt8} {w : World} {gb : Option Nat} (h : WrG B b l w gb) : b < w.heap.size ∧ ∀ g, gb = some g → g < w.heap.size := by
  obtain ⟨p, v, h1, h2, h3, h4, h5, h6⟩ := h.parts
  refine ⟨h1.lt, fun g e => ?_⟩
  exact own1_lt h3 (h4.trans e)
/-- A writer stays, where its blocks stay. -/
theorem WrG.keep {B b : Nat} {l : List UInt8} {w w' : World} {gb : Option Nat} (h : WrG B b l w gb) (hb : w'.heap[b]? = w.heap[b]?) (hg : ∀ g, gb = some g → w'.heap[g]? = w.heap[g]?) : WrG B b l w' gb := by
  obtain ⟨hw, v, hv, hgb⟩ := h
  have key : ∀ p, Lib.BuilderAt 78 5 B b p (Lib.byteCells l) w → Lib.BuilderAt 78 5 B b p (Lib.byteCells l) w' := fun p h => by
    obtain ⟨hB, v1, hbk, hown, hne⟩ := h
    have c1 : w.cell? ⟨b, 1, none⟩ = some v1 := by rw [Lib.cell_of_heap hbk]; rfl
    rw [c1] at hv
    cases hv
    exact ⟨hB, v, hb.trans hbk, own1_keep hown (fun g e => hg g (hgb.symm.trans e)), hne⟩
  refine ⟨?_, v, (World.cell?_of_block hb).trans hv, hgb⟩
  rcases hw with h | h
  · exact Or.inl (key _ h)
  · exact Or.inr (key _ h)
theorem WrG.below {B b : Nat} {l : List UInt8} {w w' : World} {gb : Option Nat} (h : WrG B b l w gb) (hb : Below w.heap.size w w') : WrG B b l w' gb := h.keep (hb.block b h.lt.1) (fun g e => hb.block g (h.lt.2 g e))
set_option maxHeartbeats 4000000 in
theorem wWriteG (B b : Nat) (l s : List UInt8) (w : World) (gb : Option Nat) (h : WrG B b l w gb) (hlen : l.length + s.length ≤ 140737488355328) (hBw : B ≤ w.heap.size) :
    Calls Tryd.prog 37 #[.pointer (some ⟨b, 0, none⟩), .string ⟨s.toArray⟩] w fun e w' => (∃ v, e = .returned v) ∧ ∃ gb', WrG B b (l ++ s) w' gb' ∧ WSt b gb w gb' w' := by
  obtain ⟨i0, hi, hz0, hz1, hz2⟩ := info_parts infoU8
  have hlt := h.lt
  obtain ⟨p, v, hAt, hbk0, hown0, hgb, hnb, hBb⟩ := h.parts
  have hck : Calls Tryd.prog 66 #[.pointer (some ⟨b, 0, none⟩)] w fun e w' => e = .returned (.tuple #[]) ∧ w'.heap[b]? = some (.cells #[.pointer (some ⟨b, 0, none⟩), v] 78 (0, 0)) ∧ Only (fun k => k = b) w w' := by
    have hl := hAt.lt
    rcases h.1 with hf | hf
    · refine (wCheck_fresh b w hf.cell0 hf.shape hf.frozen0).mono ?_
      rintro e w' ⟨rfl, rfl⟩
      have hO : Only (fun k => k = b) w (w.setCell ⟨b, 0, none⟩ (.pointer (some ⟨b, 0, none⟩))) := Only.setCell (S := fun k => k = b) (Only.refl _ w) ⟨b, 0, none⟩ rfl _
      refine ⟨rfl, ?_, hO⟩
      simp [World.setCell, Array.getElem?_modify, hbk0]
    · refine (wCheck_used b w hf.cell0).mono ?_
      rintro e w' ⟨rfl, rfl⟩
      obtain ⟨_, v1, hb1, _, _⟩ := hf
      rw [hbk0] at hb1
      have e1 : p = .pointer (some ⟨b, 0, none⟩) := by
        have := hb1
        simp at this
        exact this.1
      rw [e1] at hbk0
      exact ⟨rfl, hbk0, Only.refl _ _⟩
  have hss := strS s
  have HOWN := hide hown0
  have HGB := hide hgb
  have HNB := hide hnb
  have HLT := hide hlt
  clear hAt hbk0 hown0 h hgb hnb hlt
  go_enter Tryd.func37, Tryd.ntmps37
  go_wp2_with fail
  refine hck.mono ?_
  clear hck
  rintro e w1 ⟨rfl, hbk, hO1⟩
  have c0 : w1.cell? ⟨b, 0, none⟩ = some (.pointer (some ⟨b, 0, none⟩)) := by rw [Lib.cell_of_heap hbk]; rfl
  have c1 : w1.cell? ⟨b, 1, none⟩ = some v := by rw [Lib.cell_of_heap hbk]; rfl
  have hown : w1.ownsRow B 5 1 v l.length (Lib.byteCells l) := own1_keep HOWN.out (fun g e => hO1.block g (own1_lt HOWN.out e) (fun e2 => by subst e2; exact HNB.out (HGB.out.symm.trans e)))
  have HBK := hide hbk
  have HO1 := hide hO1
  have hs1 := hO1.size
  have hsB : B ≤ w1.heap.size := by omega
  have hbl : (Lib.byteCells l).length = l.length := Lib.byteCells_length l
  clear hbk hO1
  go_wp2_with (at_builtin; refine wpList_append_string_at _ rfl _ _ 22 9 rfl B 5 i0 Tryd.underlying22 Tryd.underlying9 hi hz0 hz1 hz2 _ _ _ rfl hown ⟨s.toArray⟩ rfl ?c3 ?c4 ?c5 ?_)
  case c3 => unfold maxLen; omega
  case c4 => omega
  case c5 => omega
  intro v' w2 hown' hgrow hnil hpl
  have hblt : b < w1.heap.size := Blk.lt (t := 78) (cs := #[.pointer (some ⟨b, 0, none⟩), v]) HBK.out
  have hvb : v.ownBlock ≠ some b := fun e => HNB.out (HGB.out.symm.trans e)
  have hb2 : w2.heap[b]? = some (.cells #[.pointer (some ⟨b, 0, none⟩), v] 78 (0, 0)) := (hgrow.block b hblt (fun e => hvb e.symm)).trans HBK.out
  have d0 : w2.cell? ⟨b, 0, none⟩ = some (.pointer (some ⟨b, 0, none⟩)) := by rw [Lib.cell_of_heap hb2]; rfl
  have d1 : w2.cell? ⟨b, 1, none⟩ = some v := by rw [Lib.cell_of_heap hb2]; rfl
  have f1 : w2.frozen? ⟨b, 1, none⟩ = false := Lib.frozen_of_heap hb2 1
  have hO := hide hown'
  have HB2 := hide hb2
  have HST : Hid (WSt b gb w v'.ownBlock (w2.setCell ⟨b, 1, none⟩ v')) := by
    have hOg : Only (fun k => k = b ∨ some k = gb) w1 w2 := ⟨hgrow.os, hgrow.tape, hgrow.output, hgrow.size, fun k hk hn => hgrow.block k hk (fun e => hn (Or.inr (by rw [e]; exact HGB.out)))⟩
    refine ⟨((HO1.out.weak (fun k _ e => Or.inl e)).trans hOg).setCell ⟨b, 1, none⟩ (Or.inl rfl) _, ?_⟩
    cases ho : v'.ownBlock with
    | none =>
      have : v' = .slice none 0 0 := by
        rcases hown'.2 with ⟨h1, _⟩ | ⟨g, cap, cur, h1, _⟩
        · exact h1
        · rw [h1] at ho; cases ho
      have := (hnil.1 this).1
      rw [this] at HGB
      exact Or.inl HGB.out
    | some g =>
      rcases hpl g ho with h1 | h1
      · exact Or.inl (h1.symm.trans HGB.out)
      · exact Or.inr ⟨g, rfl, by omega⟩
  obtain ⟨ao, n', cap, rfl⟩ : ∃ ao n' cap, v' = .slice ao n' cap := by
    rcases hown'.2 with ⟨hv, _⟩ | ⟨g, cap, cur, hv, _⟩
    · exact ⟨_, _, _, hv⟩
    · exact ⟨_, _, _, hv⟩
  clear hown' hgrow hown c0 c1 hb2 hnil hpl
  go_wp2_with fail
  go_ret2
  have hbs : Lib.byteCells (l ++ s) = Lib.byteCells l ++ Lib.strCells ⟨s.toArray⟩ := by simp [Lib.byteCells, Lib.strCells]
  refine ⟨⟨_, rfl⟩, _, ⟨Or.inr ?_, _, ?_, rfl⟩, HST.out⟩
  · rw [hbs]
    exact Lib.BuilderAt.put (T := 78) (e := 5) hBb HB2.out (bs' := Lib.byteCells l ++ Lib.strCells ⟨s.toArray⟩) (by rw [List.length_append, Lib.strCells_length, hbl, hss]; exact hO.out) (by decide)
  · simp [World.setCell, World.cell?, Array.getElem?_modify, HB2.out]
set_option maxHeartbeats 4000000 in
theorem wLen_calls (B b : Nat) (l : List UInt8) (w : World) (gb : Option Nat) (h : WrG B b l w gb) :
    Calls Tryd.prog 46 #[.pointer (some ⟨b, 0, none⟩)] w fun e w' => e = .returned (.int .i64 (l.length : Int)) ∧ w = w' := by
  obtain ⟨p, v, hAt, hbk, hown, hgb, hnb, hBb⟩ := h.parts
  obtain ⟨ao, cap, rfl⟩ : ∃ ao cap, v = .slice ao l.length cap := by
    rcases hown.2 with ⟨hv, h0⟩ | ⟨g, cap, cur, hv, _⟩
    · exact ⟨none, 0, by rw [hv, h0]⟩
    · exact ⟨_, _, hv⟩
  have c1 : w.cell? ⟨b, 1, none⟩ = some (.slice ao l.length cap) := by rw [Lib.cell_of_heap hbk]; rfl
  clear hAt hbk hown hgb hnb hBb h
  go_enter Tryd.func46, Tryd.ntmps46
  go_wp2_with fail
  go_ret
  exact ⟨rfl, rfl⟩
theorem cellsU8 : Tryd.prog.cellsOf 5 = 1 := by kernel_rfl
set_option maxHeartbeats 4000000 in
theorem wString_calls (B b : Nat) (l : List UInt8) (w : World) (gb : Option Nat) (h : WrG B b l w gb) (h0 : l ≠ []) :
    Calls Tryd.prog 47 #[.pointer (some ⟨b, 0, none⟩)] w fun e w' => e = .returned (.string ⟨l.toArray⟩) ∧ Below B w w' := by
  obtain ⟨p, v, hAt, hbk, hown, hgb, hnb, hBb⟩ := h.parts
  have hl0 : l.length ≠ 0 := by simpa using h0
  obtain ⟨g, cap, cur, rfl, hbg, hg, hnc, hcm, hcs, htake⟩ : ∃ g cap cur, v = .slice (some ⟨g, 0, none⟩) l.length cap ∧ B ≤ g ∧ w.heap[g]? = some (.cells cur 5 (0, 0)) ∧ l.length ≤ cap ∧ cap ≤ maxLen ∧ cur.size = cap * 1 ∧ cur.toList.take (l.length * 1) = Lib.byteCells l := by
    rcases hown.2 with ⟨_, hz⟩ | ⟨g, cap, cur, hv, r⟩
    · exact absurd hz hl0
    · exact ⟨g, cap, cur, hv, r⟩
  have c1 : w.drew.cell? ⟨b, 1, none⟩ = some (.slice (some ⟨g, 0, none⟩) l.length cap) := by
    have : w.drew.heap[b]? = some (.cells #[p, .slice (some ⟨g, 0, none⟩) l.length cap] 78 (0, 0)) := hbk
    rw [Lib.cell_of_heap this]; rfl
  have hSD : (Builtin.unsafeSliceData_ #[22] 117 #[.slice (some ⟨g, 0, none⟩) l.length cap]).run Tryd.prog w.drew = .ok (.pointer (some ⟨g, 0, none⟩)) w.drew :=
    Lib.run_unsafeSliceData_row _ _ _ _ _ _ (by omega)
  have hUS : (Builtin.unsafeString_ #[117, 3] 9 #[.pointer (some ⟨g, 0, none⟩), .int .i64 l.length]).run Tryd.prog w.drew = .ok (.string ⟨l.toArray⟩) (w.drew.freeze ⟨g, 0, none⟩ l.length) := by
    refine Lib.run_unsafeString_row w.drew 117 3 9 5 Tryd.underlying117 cellsU8 g cur.size (by have hg' : w.drew.heap[g]? = some (.cells cur 5 (0, 0)) := hg; simp [World.shape?, hg']) l h0 (by omega) (by unfold maxLen at hcm; omega) ?_
    intro j x hx
    have := hown.cells (g := g) rfl j (.int .u8 x.toNat) (by simp [Lib.byteCells, hx])
    exact this
  have mixed : Tryd.prog.follows Departure.mixedOrders = true := by first | rfl | kernel_rfl
  clear hAt hbk hown hgb hnb hBb h hg htake
  go_enter Tryd.func47, Tryd.ntmps47
  go_wp2_with fail
  go_region_o
  all_goals (go_wp2; go_ret; exact ⟨rfl, Lib.below_freeze (Below.drew (Below.refl B w)) (p := ⟨g, 0, none⟩) hbg _⟩)
end Go.Proofs.YtdhdknjefjolpaaDoor
end
section
/-
  script.writer: bytes, in rows.
-/
namespace Go.Proofs.YtdhdknjefjolpaaDoor
set_option linter.unusedSimpArgs false
set_option linter.unusedVariables false
set_option maxRecDepth 10000
open Go.RowKit Go.Shelf Pl
theorem infoStr16 : (Tryd.prog.info? 9).map (fun i => (i.zero, i.size, i.bytes)) = some (some (.string .empty), 1, 16) := infoStr
theorem rows_sub {W : World} {b off n t : Nat} {F : Nat → Nat} (h : NumsAt W .u8 (some ⟨b, off, none⟩) n (fun i => (F i : Int))) (m : Nat) (hm : t + m ≤ n) : NumsAt W .u8 (some ⟨b, off + t, none⟩) m (fun i => ((F (t + i) : Nat) : Int)) := fun i hi => by
  obtain ⟨b', off', e, hlt, hc⟩ := h (t + i) (by omega)
  cases e
  exact ⟨b, off + t, rfl, hlt, by rw [Nat.add_assoc]; exact hc⟩
theorem join_len : ∀ (L : List (List UInt8)) (m : Nat), (∀ x ∈ L, x.length ≤ m) → (Lib.join L [32]).length ≤ L.length * (m + 1)
  | [], _, _ => by simp [Lib.join]
  | [x], m, h => by rw [Lib.join_one]; have := h x (by simp); simp; omega
  | x :: y :: r, m, h => by
    rw [join_two, List.length_append, List.length_append]
    have h1 := h x (by simp)
    have h2 := join_len (y :: r) m fun z hz => h z (List.mem_cons_of_mem _ hz)
    simp only [List.length_cons, List.length_nil] at h2 ⊢
    rw [Nat.add_mul]
    omega
theorem rws_len (head : List UInt8) (hh : head.length ≤ 4) (a n : Nat) (F : Nat → Nat) (k : Nat) : (Lib.join (hdW head (a + 16 * k) ++ (chW F n k).map hex2) [32]).length ≤ 200 := by
  have h1 : (hdW head (a + 16 * k) ++ (chW F n k).map hex2).length ≤ 18 := by
    rw [List.length_append, List.length_map, chW_len]
    have : (hdW head (a + 16 * k)).length ≤ 2 := by unfold hdW; split <;> simp
    omega
  have h2 := join_len (hdW head (a + 16 * k) ++ (chW F n k).map hex2) 6 (fun x hx => by
    rcases List.mem_append.1 hx with hx | hx
    · unfold hdW at hx
      split at hx
      · simp at hx
        rcases hx with rfl | rfl
        · decide
        · simp [hexT_len]
      · simp at hx
        subst hx
        omega
    · obtain ⟨c, _, rfl⟩ := List.mem_map.1 hx
      unfold hex2
      simp [hexT_len])
  have := Nat.mul_le_mul_right 7 h1
  omega
theorem wp_append_run {P : Program} {o : Oper} {a : Act} {K : Act → World → Prop} {Q : Exit → Act → World → Prop} {w : World} (s x : Operand) (t u : TypeId) (ho : o.op = .call { callee := .builtin .append, args := #[s, x], argTypes := #[t, u] })
    (vs vx v' : Value) (w' : World) (hs : a.eval s = vs) (hx : a.eval x = vx) (hr : (Builtin.append_ #[t, u] o.type #[vs, vx]).run P w = .ok v' w') (h : K (a.put o.dst v') w') : Oper.wp P o a w K Q := by
  unfold Oper.wp execOp
  simp only [ho, resolve, invoke, builtin, Sem.run_bind, Sem.run_pure, Result.andThen_ok, List.map_toArray, List.map_cons, List.map_nil, hs, hx, hr]
  exact h
theorem vS_one (L : List (List UInt8)) : ∀ u ∈ L.map vS, u.oneCell' = true := by
  intro u hu
  obtain ⟨x, _, rfl⟩ := List.mem_map.1 hu
  rfl
theorem row_of {W : World} {gn cn mL m : Nat} {L X : List (List UInt8)} {B : Nat} (hL : L.length = mL) (h : W.ownsRow B 9 1 (.slice (some ⟨gn, 0, none⟩) (mL + m) cn) (mL + m) (L.map vS ++ X.map vS)) (hX : X.length = m ∧ mL + m ≤ 1000) (hl : (Lib.join (L ++ X) [32]).length ≤ 200) :
    Calls Tryd.prog 38 #[.slice (some ⟨gn, 0, none⟩) (mL + m) cn] W fun e w' => e = .returned (.string ⟨(rowT (L ++ X)).toArray⟩) ∧ Below W.heap.size W w' := by
  obtain ⟨hX, hm⟩ := hX
  rw [← List.map_append] at h
  obtain ⟨o, c, hv, hw⟩ := WsAt.of_row h
  have hlt := own1_lt h (g := gn) rfl
  have hcap : mL + m ≤ cn := by
    rcases h.2 with ⟨hx, _⟩ | ⟨_, _, _, hx, _, _, q1, _⟩
    · cases hx
    · cases hx; exact q1
  have e : (L ++ X).length = mL + m := by rw [List.length_append, hL, hX]
  rw [e] at hv
  cases hv
  have := row_calls gn 0 cn (L ++ X) W hw hlt (by omega) (by omega) (by omega)
  rw [e] at this
  exact this
set_option maxRecDepth 100000 in
set_option maxHeartbeats 16000000 in
theorem wbytes_calls (fk q b B : Nat) (head : List UInt8) (hh : head.length ≤ 4) (a : Nat) (o : Option Addr) (n c : Nat) (F : Nat → Nat) (l : List UInt8) (w : World) (gb : Option Nat) (hw : WrG B b l w gb) (hBw : B ≤ w.heap.size) (hn : n ≤ 20000) (hc : n ≤ c) (hcm : c ≤ 9223372036854775807) (hl : l.length ≤ 1000000) (hF : ∀ i, F i < 256)
    (hcf : ∀ args W, (callFunc fk args).run Tryd.prog W = .ok (.enter fk args) W)
    (hN : ∀ W, Only (fun k => k = b ∨ some k = gb) w W → NumsAt W .u8 o n (fun i => (F i : Int)))
    (hd : ∀ (W : World) (t : Nat), Only (fun k => k = b ∨ some k = gb) w W → t < n → Calls Tryd.prog fk #[.int .i64 (t : Int), .pointer (some ⟨q, 0, none⟩)] W fun e w' => ∃ g, e = .returned (.slice (some ⟨g, 0, none⟩) (hdW head (a + t)).length (hdW head (a + t)).length) ∧ w'.ownsRow W.heap.size 9 1 (.slice (some ⟨g, 0, none⟩) (hdW head (a + t)).length (hdW head (a + t)).length) (hdW head (a + t)).length ((hdW head (a + t)).map vS) ∧ Below W.heap.size W w') :
    Calls Tryd.prog 41 #[.pointer (some ⟨b, 0, none⟩), .slice o n c, .func (.func fk) #[] #[.pointer (some ⟨q, 0, none⟩)]] w fun e w' => (∃ v, e = .returned v) ∧ ∃ gb', WrG B b (l ++ rwK head a n F n) w' gb' ∧ WSt b gb w gb' w' := by
  obtain ⟨i0, hi, hz0, hz1, hz2⟩ := info_parts infoStr16
  have HN := hide hN
  have HD := hide hd
  have HW := hide hw
  clear hN hd hw
  go_enter Tryd.func41, Tryd.ntmps41
  go_wp2_with fail
  go_loopw [6] (fun v6 wr => ∃ (k t : Nat) (gk : Option Nat), v6 = .int .i64 (t : Int) ∧ t < n + 16 ∧ Hid (t = 16 * k ∧ WrG B b (l ++ (List.range k).flatMap (rws head a n F)) wr gk ∧ WSt b gb w gk wr ∧ (l ++ (List.range k).flatMap (rws head a n F)).length ≤ 1000000 + 201 * k)) (fun v6 _ => n + 16 - (intOf v6).toNat)
  case atStart => exact ⟨0, 0, gb, rfl, by omega, rfl, by simpa using HW.out, WSt.refl _ _ _, by simpa using hl⟩
  case round =>
    obtain ⟨k, t, gk, rfl, ht, HI⟩ := hrel
    rcases Nat.lt_or_ge t n with hlt | hge
    · obtain ⟨htk, hwr, hst, hlen⟩ := HI.out
      have hnm := HN.out wr hst.1
      obtain ⟨bb, off, rfl, hbb, hcc⟩ := hnm 0 (by omega)
      clear hcc
      obtain ⟨m, hm⟩ : ∃ m, m = min (n - t) 16 := ⟨_, rfl⟩
      have hm1 : 1 ≤ m := by omega
      have hm2 : t + m ≤ n := by omega
      have hsub := rows_sub hnm m hm2
      have hbs : B ≤ wr.heap.size := by have := hst.1.size; omega
      have htd := fun W (h : Below wr.heap.size wr W) => told_calls (some ⟨bb, off + t, none⟩) m (c - t) (fun j => F (t + j)) W (by omega) (fun _ => hF _) (hsub.below h (Nat.le_refl _))
      have hch : (chW F n k).map hex2 = (List.range m).map fun i => hex2 (F (t + i)) := by unfold chW; rw [List.map_map, ← htk, hm]; rfl
      have hrl := rws_len head hh a n F k
      rw [← htk, hch] at hrl
      have hrw : Hid (rws head a n F k = rowT (hdW head (a + t) ++ (List.range m).map fun i => hex2 (F (t + i)))) := by unfold Hid rws; rw [← htk, hch]
      obtain ⟨L, hL⟩ : ∃ L, hdW head (a + t) = L := ⟨_, rfl⟩
      have hLl : 1 ≤ L.length ∧ L.length ≤ 2 := by rw [← hL]; unfold hdW; split <;> simp
      have hdd := fun W (h : Below wr.heap.size wr W) => HD.out W t (hst.1.trans (Only.of h)) hlt
      rw [hL] at hdd hrl hrw
      have HL := hide hL
      have hBL0 : Below wr.heap.size wr wr.drew := Below.drew (Below.refl _ _)
      have hso : Only (fun k => k = b ∨ some k = gk) wr wr := Only.refl _ _
      obtain ⟨mL, hmL⟩ : ∃ mL, L.length = mL := ⟨_, rfl⟩
      rw [hmL] at hdd hLl
      obtain ⟨hL1, hL2⟩ := hLl
      have HmL := hide hmL
      have HTK := hide htk
      have HWR := hide hwr
      have HST := hide hst
      have hlen2 : (l ++ (List.range k).flatMap (rws head a n F)).length ≤ 2000000 := by omega
      have HLEN := hide hlen
      have HLEN2 := hide hlen2
      have HRL := hide hrl
      have HRT : Hid ((rowT (L ++ (List.range m).map fun i => hex2 (F (t + i)))).length ≤ 201) := by
        unfold Hid rowT
        rw [List.length_append]
        simp only [List.length_cons, List.length_nil]
        omega
      have k1 : (t : Int) < (n : Int) := by omega
      obtain ⟨u, hu⟩ : ∃ u, u = t + m := ⟨_, rfl⟩
      have hmin : min ((t : Int) + 16) (n : Int) = (u : Int) := by omega
      have huc : (u : Int) ≤ (c : Int) := by omega
      have hut : t ≤ u := by omega
      have hum : u - t = m := by omega
      have hct : (c = t) = False := eq_false (by omega)
      clear hL hmL htk hwr hst hlen hlen2 hrl hnm hsub hch hbb hm hu
      go_wp2_with fail
      refine wp_region_held_drew (S := fun W => Only (fun k => k = b ∨ some k = gk) wr W) (by kernel_rfl) (by first | exact hso.drew | exact hso | exact Below.drew hso) (fun hS0 => ?_)
      clear hso
      change wpAnyH _ _ _ _ _ 14 #[false, false, false, false, false, false, false, false, false, false, false, false, false, false] _ _
      generalize wr.drew = v0 at *
      refine wpAnyH_take (i := 0) (v := ?_) rfl (by kernel_rfl) (by kernel_rfl) (by kernel_rfl) (fun _ _ _ h => h) (Or.inl ⟨by rfl, ?_⟩) hS0 ?_
      rotate_left
      · (intro w hSw; (try dsimp only at hSw); go_simp; try with_reducible rfl)
      simp only [List.getElem_toArray, List.getElem_cons_zero, List.getElem_cons_succ, Act.put, List.setIfInBounds_toArray, List.set_cons_zero, List.set_cons_succ]
      refine wpAnyH_take (i := 1) (v := ?_) rfl (by kernel_rfl) (by kernel_rfl) (by kernel_rfl) (fun _ _ _ h => h) (Or.inl ⟨by rfl, ?_⟩) hS0 ?_
      rotate_left
      · (intro w hSw; (try dsimp only at hSw); go_simp; try with_reducible rfl)
      simp only [List.getElem_toArray, List.getElem_cons_zero, List.getElem_cons_succ, Act.put, List.setIfInBounds_toArray, List.set_cons_zero, List.set_cons_succ]
      refine wpAnyH_take (i := 2) (v := ?_) rfl (by kernel_rfl) (by kernel_rfl) (by kernel_rfl) (fun _ _ _ h => h) (Or.inl ⟨by rfl, ?_⟩) hS0 ?_
      rotate_left
      · (intro w hSw; (try dsimp only at hSw); go_simp; try with_reducible rfl)
      simp only [List.getElem_toArray, List.getElem_cons_zero, List.getElem_cons_succ, Act.put, List.setIfInBounds_toArray, List.set_cons_zero, List.set_cons_succ]
      refine wpAnyH_take (i := 3) (v := ?_) rfl (by kernel_rfl) (by kernel_rfl) (by kernel_rfl) (fun _ _ _ h => h) (Or.inl ⟨by rfl, ?_⟩) hS0 ?_
      rotate_left
      · (intro w hSw; (try dsimp only at hSw); go_simp; try with_reducible rfl)
      simp only [List.getElem_toArray, List.getElem_cons_zero, List.getElem_cons_succ, Act.put, List.setIfInBounds_toArray, List.set_cons_zero, List.set_cons_succ]
      refine wpAnyH_take (i := 4) (v := ?_) rfl (by kernel_rfl) (by kernel_rfl) (by kernel_rfl) (fun _ _ _ h => h) (Or.inl ⟨by rfl, ?_⟩) hS0 ?_
      rotate_left
      · (intro w hSw; (try dsimp only at hSw); go_simp; try with_reducible rfl)
      simp only [List.getElem_toArray, List.getElem_cons_zero, List.getElem_cons_succ, Act.put, List.setIfInBounds_toArray, List.set_cons_zero, List.set_cons_succ]
      refine wpAnyH_take (i := 6) (v := ?_) rfl (by kernel_rfl) (by kernel_rfl) (by kernel_rfl) (fun _ _ _ h => h) (Or.inl ⟨by rfl, ?_⟩) hS0 ?_
      rotate_left
      · (intro w hSw; (try dsimp only at hSw); go_simp; try with_reducible rfl)
      simp only [List.getElem_toArray, List.getElem_cons_zero, List.getElem_cons_succ, Act.put, List.setIfInBounds_toArray, List.set_cons_zero, List.set_cons_succ]
      refine wpAnyH_take (i := 7) (v := ?_) rfl (by kernel_rfl) (by kernel_rfl) (by kernel_rfl) (fun _ _ _ h => h) (Or.inl ⟨by rfl, ?_⟩) hS0 ?_
      rotate_left
      · (intro w hSw; (try dsimp only at hSw); go_simp; try with_reducible rfl)
      simp only [List.getElem_toArray, List.getElem_cons_zero, List.getElem_cons_succ, Act.put, List.setIfInBounds_toArray, List.set_cons_zero, List.set_cons_succ]
      refine wpAnyH_take (i := 8) (v := ?_) rfl (by kernel_rfl) (by kernel_rfl) (by kernel_rfl) (fun _ _ _ h => h) (Or.inl ⟨by rfl, ?_⟩) hS0 ?_
      rotate_left
      · (intro w hSw; (try dsimp only at hSw); go_simp; try with_reducible rfl)
      simp only [List.getElem_toArray, List.getElem_cons_zero, List.getElem_cons_succ, Act.put, List.setIfInBounds_toArray, List.set_cons_zero, List.set_cons_succ]
      refine wpAnyH_take (i := 9) (v := ?_) rfl (by kernel_rfl) (by kernel_rfl) (by kernel_rfl) (fun _ _ _ h => h) (Or.inl ⟨by rfl, ?_⟩) hS0 ?_
      rotate_left
      · (intro w hSw; (try dsimp only at hSw); go_simp; try with_reducible rfl)
      simp only [List.getElem_toArray, List.getElem_cons_zero, List.getElem_cons_succ, Act.put, List.setIfInBounds_toArray, List.set_cons_zero, List.set_cons_succ]
      refine wpAnyH_ready (rs := [5]) (by kernel_rfl) (by simp) ?_
      refine AllReadyH.cons rfl (fun K hK => ?_) AllReadyH.nil
      go_simp
      refine (hdd _ hBL0).mono ?_
      rintro e v1 ⟨gh, rfl, hoh, hb1⟩
      have hBL1 := hBL0.trans (hb1.mono (by have := hBL0.size; omega))
      have hgb := (own1_blk hoh rfl).1
      have hoh1 := own_base hoh (Nat.zero_le _)
      clear hoh
      (try go_simp)
      refine hK.out _ _ (by first | exact hS0.below hb1 hS0.lt | exact hS0.trans (hb1.mono hS0.size) | exact hS0.trans (hb1.mono (by have := hS0.size; omega)) | exact (hb1.cell (cell_lt hS0)).trans hS0 | exact hS0.below hb1 (Nat.le_refl _) | exact hS0.low hb1 | exact hS0.below hb1 | exact hS0.trans (Only.of hb1)) (fun hS1 => ?_)
      clear hK K
      clear hb1 hS0
      simp only [List.getElem_toArray, List.getElem_cons_zero, List.getElem_cons_succ, Act.put, List.setIfInBounds_toArray, List.set_cons_zero, List.set_cons_succ]
      refine wpAnyH_ready (rs := [10]) (by kernel_rfl) (by simp) ?_
      refine AllReadyH.cons rfl (fun K hK => ?_) AllReadyH.nil
      go_simp
      refine (htd _ hBL1).mono ?_
      rintro e v2 ⟨vt, rfl, hot, hv0, hb2⟩
      have hBL2 := hBL1.trans (hb2.mono (by have := hBL1.size; omega))
      have hoh2 := own1_keep hoh1 (fun g hg => hb2.block g (own1_lt hoh1 hg))
      obtain ⟨gt, ct, cur, rfl, hct⟩ := own1_row hot hm1
      clear hct hv0 cur
      (try go_simp)
      refine hK.out _ _ (by first | exact hS1.below hb2 hS1.lt | exact hS1.trans (hb2.mono hS1.size) | exact hS1.trans (hb2.mono (by have := hS1.size; omega)) | exact (hb2.cell (cell_lt hS1)).trans hS1 | exact hS1.below hb2 (Nat.le_refl _) | exact hS1.low hb2 | exact hS1.below hb2 | exact hS1.trans (Only.of hb2)) (fun hS2 => ?_)
      clear hK K
      clear hb2 hS1
      simp only [List.getElem_toArray, List.getElem_cons_zero, List.getElem_cons_succ, Act.put, List.setIfInBounds_toArray, List.set_cons_zero, List.set_cons_succ]
      refine wpAnyH_ready (rs := [11]) (by kernel_rfl) (by simp) ?_
      refine AllReadyH.cons rfl (fun K hK => ?_) AllReadyH.nil
      rw [if_pos (show Region.wanted _ _ = true from by rfl)]
      obtain ⟨v', v3, hrun, hown', hgrow, hnil'⟩ := run_append_own (P := Tryd.prog) (w := v2) 0 45 45 9 i0 _ 1 16 Tryd.underlying45 hi hz0 hz1 hz2 rfl (by decide) _ mL _ hoh2 ⟨gt, 0, none⟩ m ct _ (by simp) (own_news hot) (vS_one _) (by unfold maxLen; omega) (by omega) (Nat.zero_le _)
      have hs0 := hBL0.size
      have hBL3 : Below wr.heap.size wr v3 := hBL2.grown hgrow hBL2.size (fun k hk => by cases hk; omega)
      obtain ⟨gn, cn, cur, rfl, hcn⟩ := own1_row hown' (by omega)
      have hrow : Calls Tryd.prog 38 #[.slice (some ⟨gn, 0, none⟩) (mL + m) cn] v3 fun e w' => e = .returned (.string ⟨(rowT (L ++ (List.range m).map fun i => hex2 (F (t + i)))).toArray⟩) ∧ Below v3.heap.size v3 w' := row_of HmL.out hown' ⟨by simp, by omega⟩ HRL.out
      clear hnil' hgrow hown' hcn
      refine wp_append_run _ _ _ _ rfl _ _ _ _ rfl rfl hrun ?_
      refine hK.out _ _ (Only.of hBL3) (fun hS3 => ?_)
      clear hK K hS2
      simp only [List.getElem_toArray, List.getElem_cons_zero, List.getElem_cons_succ, Act.put, List.setIfInBounds_toArray, List.set_cons_zero, List.set_cons_succ]
      refine wpAnyH_ready (rs := [12]) (by kernel_rfl) (by simp) ?_
      refine AllReadyH.cons rfl (fun K hK => ?_) AllReadyH.nil
      go_simp
      refine (hrow).mono ?_
      rintro e v4 ⟨rfl, hbr⟩
      have hBL4 := hBL3.trans (hbr.mono (by have := hBL3.size; omega))
      (try go_simp)
      refine hK.out _ _ (Only.of hBL4) (fun hS4 => ?_)
      clear hK K hS3
      simp only [List.getElem_toArray, List.getElem_cons_zero, List.getElem_cons_succ, Act.put, List.setIfInBounds_toArray, List.set_cons_zero, List.set_cons_succ]
      refine wpAnyH_ready (rs := [13]) (by kernel_rfl) (by simp) ?_
      refine AllReadyH.cons rfl (fun K hK => ?_) AllReadyH.nil
      go_simp
      refine (wWriteG B b _ _ _ gk (HWR.out.below hBL4) (by have := HRT.out; have := HLEN2.out; omega) (by have := hBL4.size; omega)).mono ?_
      rintro e v5 ⟨⟨vv, rfl⟩, gk2, q1, q2⟩
      (try go_simp)
      refine hK.out _ _ ((Only.of hBL4).trans q2.1) (fun hS5 => ?_)
      clear hK K hS4
      simp only [List.getElem_toArray, List.getElem_cons_zero, List.getElem_cons_succ, Act.put, List.setIfInBounds_toArray, List.set_cons_zero, List.set_cons_succ]
      refine wpAnyH_done (by kernel_rfl) ?_ _
      have hso := hS5
      clear hS5
      go_wp2_with fail
      have e5 : l ++ (List.range (k + 1)).flatMap (rws head a n F) = (l ++ (List.range k).flatMap (rws head a n F)) ++ rowT (L ++ (List.range m).map fun i => hex2 (F (t + i))) := by
        rw [List.range_succ, List.flatMap_append, ← hrw.out, List.append_assoc]
        simp
      have htk := HTK.out
      have hrt := HRT.out
      have hln := HLEN.out
      refine ⟨⟨k + 1, t + 16, gk2, by go_num, by omega, by omega, by rw [e5]; exact q1, HST.out.trans (WSt.head hBL4 q2), by rw [e5, List.length_append]; omega⟩, ?_⟩
      simp [intOf]; omega
    · obtain ⟨htk, hwr, hst, hlen⟩ := HI.out
      have e : k = (n + 15) / 16 := by omega
      rw [e, ← rwK_rows] at hwr
      have HWR := hide hwr
      have HST := hide hst
      have k2 : (decide ((t : Int) < (n : Int))) = false := decide_eq_false (by omega)
      clear HI hwr hst hlen htk e
      go_wp2_with fail
      go_end0
      exact ⟨⟨_, rfl⟩, gk, HWR.out, HST.out⟩
end Go.Proofs.YtdhdknjefjolpaaDoor
end
