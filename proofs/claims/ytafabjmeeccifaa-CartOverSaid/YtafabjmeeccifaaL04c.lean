/-
  gannetlaw04: CartOver, the plain parts.
-/
import Derived.Test.YtafabjmeeccifaaL04b
import Derived.Deep.RegionHeld3
namespace Go
/-- 'append(s, x..)' at a step of a region that draws, x nil or not, empty or not. -/
theorem step_append_any {P : Program} {w : World} {ops : Array Oper} {o : Oper} {a : Act} {K : Act → World → Prop} {Q : Exit → Act → World → Prop} {E : Prop} (hgd : o.guard = none) (s x : Operand) (t : TypeId)
    (ho : o.op = .call { callee := .builtin .append, args := #[s, x], argTypes := #[t, t] })
    (base : Nat) (e : TypeId) (i : TypeInfo) (z : Value) (size bytes : Nat) (ht : P.underlying t = some (.slice e)) (hi : P.info? e = some i) (hz : i.zero = some z)
    (hsize : i.size = size) (hby : i.bytes = bytes) (hzs : z.cells.size = size) (hsz : 0 < size)
    (v : Value) (n : Nat) (xs : List Value) (hs : a.eval s = v) (hown : w.ownsRow base e size v n xs)
    (oa : Option Addr) (m c : Nat) (news : List Value) (hx : a.eval x = .slice oa m c) (hl : news.length = m * size) (hno : oa = none → m = 0)
    (hnews : ∀ ad, oa = some ad → ∀ j u, news[j]? = some u → w.cell? (ad.add j) = some u) (h1 : ∀ u ∈ news, u.oneCell' = true)
    (h63 : n + m ≤ maxLen) (hbytes : (n + m) * bytes ≤ 140737488355328) (hbase : base ≤ w.heap.size)
    (h : ∀ v' w', w'.ownsRow base e size v' (n + m) (xs ++ news) → w.grownBy w' v.ownBlock → K (a.put o.dst v') w') :
    if Region.wanted o (yielded ops a.tmps) = true then Oper.wp P o a w K Q else E := by
  have hw : Region.wanted o (yielded ops a.tmps) = true := by simp [Region.wanted, hgd]
  rw [if_pos hw]
  cases oa with
  | some ad =>
    obtain ⟨v', w', hr, h2, h3, _, _⟩ := run_append_own_at (P := P) w base t o.type e i z size bytes ht hi hz hsize hby hzs hsz v n xs hown ad m c news hl (hnews ad rfl) h1 h63 hbytes hbase
    unfold Oper.wp execOp
    simp only [ho, resolve, invoke, builtin, Sem.run_bind, Sem.run_pure, Result.andThen_ok, List.map_toArray, List.map_cons, List.map_nil, hs, hx, hr]
    exact h v' w' h2 h3
  | none =>
    obtain rfl := hno rfl
    have hnil : news = [] := List.eq_nil_of_length_eq_zero (by rw [hl, Nat.zero_mul])
    subst hnil
    have hr : (Builtin.append_ #[t, t] o.type #[v, .slice none 0 c]).run P w = .ok v w := by
      rcases hown.2 with ⟨rfl, rfl⟩ | ⟨g, cap, cur, rfl, _, _, hnc, _⟩
      · simp [Builtin.append_, run_underlying ht, sizeOf, typeInfo, hi, Builtin.lenOf, Builtin.firstCells]
      · simp [Builtin.append_, run_underlying ht, sizeOf, typeInfo, hi, Builtin.lenOf, Builtin.firstCells, hnc, storeCells]
    unfold Oper.wp execOp
    simp only [ho, resolve, invoke, builtin, Sem.run_bind, Sem.run_pure, Result.andThen_ok, List.map_toArray, List.map_cons, List.map_nil, hs, hx, hr]
    exact h v w (by simpa using hown) (World.grownBy.refl _ _)
end Go
namespace Go.Proofs.Ytafabjmeeccifaa
open Go.RowKit Pl

/-- One more. -/
def xf {α : Type} (f : Nat → α) (n : Nat) (v : α) (i : Nat) : α := if i = n then v else f i
theorem xf_at {α : Type} (f : Nat → α) (n : Nat) (v : α) : xf f n v n = v := if_pos rfl
theorem xf_lt {α : Type} (f : Nat → α) (n : Nat) (v : α) {i : Nat} (h : i < n) : xf f n v i = f i := if_neg (by omega)
def pcV (At : Nat → Int) (O : Nat → Option Addr) (Ln Cp : Nat → Nat) (j : Nat) : Value := if j % 2 = 0 then .int .i64 (At (j / 2)) else .slice (O (j / 2)) (Ln (j / 2)) (Cp (j / 2))
def pcL (At : Nat → Int) (O : Nat → Option Addr) (Ln Cp : Nat → Nat) (n : Nat) : List Value := (List.range (n * 2)).map (pcV At O Ln Cp)
theorem pcL_length (At : Nat → Int) (O : Nat → Option Addr) (Ln Cp : Nat → Nat) (n : Nat) : (pcL At O Ln Cp n).length = n * 2 := by simp [pcL]
theorem pcL_get (At : Nat → Int) (O : Nat → Option Addr) (Ln Cp : Nat → Nat) (n j : Nat) : (pcL At O Ln Cp n)[j]? = if j < n * 2 then some (pcV At O Ln Cp j) else none := by
  unfold pcL
  by_cases h : j < n * 2
  · rw [if_pos h]; simp [h]
  · rw [if_neg h]; simp; omega
theorem pcL_one (At : Nat → Int) (O : Nat → Option Addr) (Ln Cp : Nat → Nat) (n : Nat) : ∀ u ∈ pcL At O Ln Cp n, u.oneCell' = true := fun u hu => by
  obtain ⟨j, _, rfl⟩ := List.mem_map.1 hu
  unfold pcV
  by_cases h : j % 2 = 0
  · rw [if_pos h]; rfl
  · rw [if_neg h]; rfl
theorem pcL_snoc (At : Nat → Int) (O : Nat → Option Addr) (Ln Cp : Nat → Nat) (n : Nat) (t : Int) (o : Option Addr) (m cp : Nat) :
    pcL (xf At n t) (xf O n o) (xf Ln n m) (xf Cp n cp) (n + 1) = pcL At O Ln Cp n ++ [.int .i64 t, .slice o m cp] := by
  apply List.ext_getElem?
  intro j
  rw [List.getElem?_append, pcL_get, pcL_get, pcL_length]
  unfold pcV
  by_cases h : j < n * 2
  · rw [if_pos (by omega), if_pos h, if_pos h, xf_lt _ _ _ (by omega), xf_lt _ _ _ (by omega), xf_lt _ _ _ (by omega), xf_lt _ _ _ (by omega)]
  · rw [if_neg h]
    by_cases h1 : j = n * 2
    · have h2 : j / 2 = n := by omega
      rw [if_pos (by omega), if_pos (by omega), h2, xf_at, show j - n * 2 = 0 from by omega]
      rfl
    · by_cases h2 : j = n * 2 + 1
      · have h3 : j / 2 = n := by omega
        rw [if_pos (by omega), if_neg (by omega), h3, xf_at, xf_at, xf_at, show j - n * 2 = 1 from by omega]
        rfl
      · rw [if_neg (by omega), List.getElem?_eq_none (by simp; omega)]
theorem pc_news {w : World} {a : Option Addr} {n : Nat} {At : Nat → Int} {O : Nat → Option Addr} {Ln Cp : Nat → Nat} {By : Nat → Nat → Int} {B : Nat} (hP : PieB w a n At O Ln Cp By B) : ∀ ad, a = some ad → ∀ j u, (pcL At O Ln Cp n)[j]? = some u → w.cell? (ad.add j) = some u := fun ad ha j u hu => by
  rw [pcL_get] at hu
  by_cases hj : j < n * 2
  · rw [if_pos hj] at hu
    obtain ⟨b, off, hb, _, h0, h1, _⟩ := hP (j / 2) (by omega)
    rw [ha] at hb
    injection hb with hb
    subst hb
    rw [add_plain, ← hu]
    unfold pcV
    by_cases h2 : j % 2 = 0
    · rw [if_pos h2, show off + j = off + j / 2 * 2 from by omega]; exact h0
    · rw [if_neg h2, show off + j = off + j / 2 * 2 + 1 from by omega]; exact h1
  · rw [if_neg hj] at hu; cases hu
theorem pc_none {w : World} {a : Option Addr} {n : Nat} {At : Nat → Int} {O : Nat → Option Addr} {Ln Cp : Nat → Nat} {By : Nat → Nat → Int} {B : Nat} (hP : PieB w a n At O Ln Cp By B) : a = none → n = 0 := fun ha => by
  rcases Nat.eq_zero_or_pos n with h | h
  · exact h
  · obtain ⟨b, off, hb, _⟩ := hP 0 h
    rw [ha] at hb
    cases hb
theorem pc_pieces {w : World} {base n m cp B : Nat} {a o : Option Addr} {At : Nat → Int} {t : Int} {O : Nat → Option Addr} {Ln Cp : Nat → Nat} {By : Nat → Nat → Int} {L : Nat → Int} {V : Value}
    (h : w.ownsRow base 46 2 V (n + 1) (pcL (xf At n t) (xf O n o) (xf Ln n m) (xf Cp n cp) (n + 1))) (hP : PieB w a n At O Ln Cp By w.heap.size) (hL : NumsAt w .u8 o m L) :
    ∃ a' c', V = .slice a' (n + 1) c' ∧ PieB w a' (n + 1) (xf At n t) (xf O n o) (xf Ln n m) (xf Cp n cp) (xf By n L) w.heap.size := by
  obtain ⟨g, cap, rfl, hbg, hgl⟩ := h.form (by omega)
  have key : ∀ j, j < (n + 1) * 2 → w.cell? ⟨g, j, none⟩ = some (pcV (xf At n t) (xf O n o) (xf Ln n m) (xf Cp n cp) j) := fun j hj => (own_cell h (by rw [pcL_get, if_pos hj])).1
  refine ⟨_, _, rfl, fun i hi => ⟨g, 0, rfl, hgl, ?_, ?_, ?_⟩⟩
  · rw [Nat.zero_add, key _ (by omega)]
    unfold pcV
    rw [if_pos (by omega), show i * 2 / 2 = i from by omega]
  · rw [Nat.zero_add, key _ (by omega)]
    unfold pcV
    rw [if_neg (by omega), show (i * 2 + 1) / 2 = i from by omega]
  · by_cases h0 : i = n
    · subst h0
      rw [xf_at, xf_at, xf_at]
      exact hL.toB (Nat.le_refl _)
    · rw [xf_lt _ _ _ (by omega), xf_lt _ _ _ (by omega), xf_lt _ _ _ (by omega)]
      obtain ⟨b, off, _, _, _, _, hB⟩ := hP i (by omega)
      exact hB
theorem mkF_congr {At At' : Nat → Int} {Ln Ln' : Nat → Nat} {By By' : Nat → Nat → Int} : ∀ k, (∀ i, i < k → At i = At' i ∧ Ln i = Ln' i ∧ By i = By' i) → mkF At Ln By k = mkF At' Ln' By' k
  | 0, _ => rfl
  | k + 1, h => by
    obtain ⟨h1, h2, h3⟩ := h k (by omega)
    show layF (mkF At Ln By k) (At k).toNat (Ln k) (By k) = layF (mkF At' Ln' By' k) (At' k).toNat (Ln' k) (By' k)
    rw [mkF_congr k (fun i hi => h i (by omega)), h1, h2, h3]
theorem mkF_x (At : Nat → Int) (Ln : Nat → Nat) (By : Nat → Nat → Int) (n : Nat) (t : Int) (m : Nat) (L : Nat → Int) : mkF (xf At n t) (xf Ln n m) (xf By n L) (n + 1) = layF (mkF At Ln By n) t.toNat m L := by
  show layF (mkF (xf At n t) (xf Ln n m) (xf By n L) n) (xf At n t n).toNat (xf Ln n m n) (xf By n L n) = _
  rw [xf_at, xf_at, xf_at, mkF_congr n (fun i hi => ⟨xf_lt At n t hi, xf_lt Ln n m hi, xf_lt By n L hi⟩)]
/-- The first that doesn't fit. -/
def badI (At : Nat → Int) (Ln : Nat → Nat) : Nat → Option Nat
  | 0 => none
  | k + 1 => match badI At Ln k with
    | some i => some i
    | none => if 0 ≤ At k ∧ At k + Ln k ≤ (16384 : Nat) then none else some k
theorem badI_congr {At At' : Nat → Int} {Ln Ln' : Nat → Nat} : ∀ k, (∀ i, i < k → At i = At' i ∧ Ln i = Ln' i) → badI At Ln k = badI At' Ln' k
  | 0, _ => rfl
  | k + 1, h => by
    obtain ⟨h1, h2⟩ := h k (by omega)
    unfold badI
    rw [badI_congr k (fun i hi => h i (by omega)), h1, h2]
theorem badI_none {At : Nat → Int} {Ln : Nat → Nat} : ∀ k, (∀ j, j < k → Fits 16384 (At j) (Ln j)) → badI At Ln k = none
  | 0, _ => rfl
  | k + 1, h => by
    unfold badI
    rw [badI_none k (fun j hj => h j (by omega))]
    exact if_pos (h k (by omega))
theorem badI_some {At : Nat → Int} {Ln : Nat → Nat} {i : Nat} (h1 : ∀ j, j < i → Fits 16384 (At j) (Ln j)) (h2 : ¬ Fits 16384 (At i) (Ln i)) : ∀ k, i < k → badI At Ln k = some i
  | 0, h => by omega
  | k + 1, h => by
    unfold badI
    by_cases e : i = k
    · subst e
      rw [badI_none i h1]
      exact if_neg h2
    · rw [badI_some h1 h2 k (by omega)]
theorem badI_x (At : Nat → Int) (Ln : Nat → Nat) (n : Nat) (t : Int) (m : Nat) : badI (xf At n t) (xf Ln n m) (n + 1) = match badI At Ln n with
    | some i => some i
    | none => if 0 ≤ t ∧ t + m ≤ (16384 : Nat) then none else some n := by
  show (match badI (xf At n t) (xf Ln n m) n with | some i => some i | none => if 0 ≤ xf At n t n ∧ xf At n t n + xf Ln n m n ≤ (16384 : Nat) then none else some n) = _
  rw [xf_at, xf_at, badI_congr n (fun i hi => ⟨xf_lt At n t hi, xf_lt Ln n m hi⟩)]
def rN : Option Nat → Nat
  | none => 16384
  | some _ => 0
def rF : Option Nat → Nat × Nat
  | none => (0, 0)
  | some i => (1, i)
theorem NumsAt.far {w : World} {k : IntKind} {a : Option Addr} {len : Nat} {g : Nat → Int} (h : NumsAt w k a len g) (p : Addr) (u : Value) (hp : ∀ b, a = some b → b.block ≠ p.block) : NumsAt (w.setCell p u) k a len g := fun i hi => by
  obtain ⟨b, off, ha, hlt, hc⟩ := h i hi
  have hne : b ≠ p.block := hp _ ha
  refine ⟨b, off, ha, by simpa [World.setCell] using hlt, ?_⟩
  exact (World.cell?_of_block (Below.heap_setCell w p u b hne)).trans hc
theorem mk_res (a : Option Addr) (n c : Nat) (At : Nat → Int) (O : Nat → Option Addr) (Ln Cp : Nat → Nat) (By : Nat → Nat → Int) (w : World) (hn : n ≤ maxLen) (hP : PieB w a n At O Ln Cp By w.heap.size) :
    Calls Try.prog 9 #[.int .i64 2, .slice a n c] w fun e w' => ∃ o, e = .returned (.tuple #[.slice o (rN (badI At Ln n)) (rN (badI At Ln n)), .agg (fltA (rF (badI At Ln n)))]) ∧ NumsAt w' .u8 o (rN (badI At Ln n)) (mkF At Ln By n) ∧ (∀ b, o = some b → w.heap.size ≤ b.block) ∧ Below w.heap.size w w' := by
  refine (mk_walk 2 16384 a n c At O Ln Cp By w ⟨by omega, by omega⟩ rfl hn hP).mono ?_
  rintro e w' ⟨hb, ⟨i, hi, h1, h2, rfl⟩ | ⟨h1, g, rfl, hR, hg⟩⟩
  · rw [badI_some h1 h2 n hi]
    exact ⟨none, rfl, fun j hj => absurd hj (by simp [rN]), (fun b hb => by cases hb), hb⟩
  · rw [badI_none n h1]
    exact ⟨_, rfl, hR.nums, (fun b hb => by cases hb; exact hg), hb⟩
end Go.Proofs.Ytafabjmeeccifaa
