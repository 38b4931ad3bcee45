/-
  The texts Sc40, Sc41, Sc46 of the proofs about scripts, as one file (they are merged by a program).
-/
import Derived.Test.YtdhdknjefjolpaaDoorA14
import Derived.Test.YtdhdknjefjolpaaDoorA9
section
/-
  A script's text, line by line: what it tells. Plain: no program in sight.
-/
namespace Go.Proofs.YtdhdknjefjolpaaDoor
set_option linter.unusedSimpArgs false
set_option linter.unusedVariables false
set_option maxRecDepth 10000
open Go.RowKit Go.Shelf Pl
theorem join_two (x y : List UInt8) (r : List (List UInt8)) (sep : List UInt8) : Lib.join (x :: y :: r) sep = x ++ sep ++ Lib.join (y :: r) sep := by
  rw [Lib.join_cons, Lib.join_cons]
  simp [Lib.joinTail]
/-- A word that may stand in a line. -/
def wOk (x : List UInt8) : Prop := x ≠ [] ∧ (32 : UInt8) ∉ x ∧ (10 : UInt8) ∉ x
theorem wdS_join : ∀ (L : List (List UInt8)) (x : List UInt8), (∀ y ∈ x :: L, wOk y) → wdS (Lib.join (x :: L) [32]) = x :: L
  | [], x, h => by
    obtain ⟨h0, h1, _⟩ := h x (by simp)
    rw [Lib.join_one, wdS_miss x h1]
    cases x with
    | nil => exact absurd rfl h0
    | cons a r => rfl
  | y :: L, x, h => by
    obtain ⟨h0, h1, _⟩ := h x (by simp)
    rw [join_two, List.append_assoc]
    show wdS (x ++ 32 :: Lib.join (y :: L) [32]) = _
    rw [wdS_hit x _ h1, wdS_join L y fun z hz => h z (List.mem_cons_of_mem _ hz)]
    cases x with
    | nil => exact absurd rfl h0
    | cons a r => rfl
theorem join_no10 : ∀ L : List (List UInt8), (∀ y ∈ L, (10 : UInt8) ∉ y) → (10 : UInt8) ∉ Lib.join L [32]
  | [], _ => by simp [Lib.join]
  | [x], h => by rw [Lib.join_one]; exact h x (by simp)
  | x :: y :: L, h => by
    rw [join_two]
    intro hm
    rcases List.mem_append.1 hm with hm | hm
    · rcases List.mem_append.1 hm with hm | hm
      · exact h x (by simp) hm
      · exact absurd (List.mem_singleton.1 hm) (by decide)
    · exact join_no10 (y :: L) (fun z hz => h z (List.mem_cons_of_mem _ hz)) hm
theorem lnW_join {x : List UInt8} {L : List (List UInt8)} (h : ∀ y ∈ x :: L, wOk y) (h35 : x.head? ≠ some 35) : lnW (Lib.join (x :: L) [32]) = x :: L := by
  have hw := wdS_join L x h
  cases x with
  | nil => exact absurd rfl (h [] (by simp)).1
  | cons c r => exact lnW_ok hw (fun e => h35 (by rw [e]; rfl))
/-- A text that tells, whatever comes behind. -/
def Goes (t : List UInt8) (T T' : Tl) : Prop := ∀ n r, ∃ n', parG T n [] (t ++ r) = parG T' n' [] r
theorem Goes.nil (T : Tl) : Goes [] T T := fun n _ => ⟨n, rfl⟩
theorem Goes.trans {t u : List UInt8} {T T' T'' : Tl} (h : Goes t T T') (g : Goes u T' T'') : Goes (t ++ u) T T'' := fun n r => by
  obtain ⟨n1, e1⟩ := h n (u ++ r)
  obtain ⟨n2, e2⟩ := g n1 r
  exact ⟨n2, by rw [List.append_assoc, e1, e2]⟩
theorem Goes.row {x : List UInt8} {L : List (List UInt8)} {T T' : Tl} (h : ∀ y ∈ x :: L, wOk y) (h35 : x.head? ≠ some 35) (hl : lineT T (x :: L) = (0, T')) : Goes (rowT (x :: L)) T T' := fun n r => by
  refine ⟨n + 1, ?_⟩
  unfold rowT
  rw [List.append_assoc]
  show parG T n [] (Lib.join (x :: L) [32] ++ 10 :: r) = _
  rw [parG_hit _ r (join_no10 _ fun y hy => (h y hy).2.2), List.nil_append, lnW_join h h35, hl, if_pos rfl]
theorem Goes.rangeF (f : Nat → List UInt8) (S : Nat → Tl) : ∀ n, (∀ k, k < n → Goes (f k) (S k) (S (k + 1))) → Goes ((List.range n).flatMap f) (S 0) (S n)
  | 0, _ => Goes.nil _
  | n + 1, h => by
    rw [List.range_succ, List.flatMap_append]
    refine (Goes.rangeF f S n fun k hk => h k (by omega)).trans ?_
    simpa using h n (by omega)
/-! ### words -/
theorem hexC_ok : ∀ d, d < 16 → hexC d ≠ 32 ∧ hexC d ≠ 10 ∧ hexC d ≠ 35 := by decide
theorem hexT_ok (n k : Nat) (hk : 0 < k) : wOk (hexT n k) := by
  have hm : ∀ k, ∀ c ∈ hexT n k, c ≠ 32 ∧ c ≠ 10 := by
    intro k
    induction k with
    | zero => intro c hc; simp [hexT] at hc
    | succ k ih =>
      intro c hc
      rw [hexT] at hc
      rcases List.mem_cons.1 hc with rfl | hc
      · have := hexC_ok (n / 16 ^ k % 16) (Nat.mod_lt _ (by omega))
        exact ⟨this.1, this.2.1⟩
      · exact ih c hc
  refine ⟨?_, fun h => (hm k _ h).1 rfl, fun h => (hm k _ h).2 rfl⟩
  intro e
  have := hexT_len n k
  rw [e] at this
  simp at this
  omega
theorem hex2_ok (a : Nat) : wOk (hex2 a) := hexT_ok a 2 (by omega)
theorem dgt_ok : ∀ d, d < 10 → dgt d ≠ 32 ∧ dgt d ≠ 10 ∧ (dgt d = 48 → d = 0) ∧ (isD (dgt d) = true ∧ (dgt d).toNat - 48 = d) := by decide
theorem decK_mem : ∀ k n, ∀ c ∈ decK k n, ∃ d, d < 10 ∧ c = dgt d
  | 0, n, c, h => by cases h
  | k + 1, n, c, h => by
    rw [decK] at h
    split at h
    · rename_i hn
      exact ⟨n, hn, List.mem_singleton.1 h⟩
    · rcases List.mem_append.1 h with h | h
      · exact decK_mem k _ c h
      · exact ⟨n % 10, Nat.mod_lt _ (by omega), List.mem_singleton.1 h⟩
theorem decK_ne : ∀ k n, 0 < k → decK k n ≠ []
  | 0, _, h => by omega
  | k + 1, n, _ => by
    rw [decK]
    split <;> simp
theorem decL_ok (n : Nat) : wOk (decL n) := by
  refine ⟨decK_ne 19 n (by omega), fun h => ?_, fun h => ?_⟩
  · obtain ⟨d, hd, e⟩ := decK_mem 19 n _ h
    exact (dgt_ok d hd).1 e.symm
  · obtain ⟨d, hd, e⟩ := decK_mem 19 n _ h
    exact (dgt_ok d hd).2.1 e.symm
theorem numF_app : ∀ (l m : List UInt8) (a : Nat), numF (l ++ m) a = match numF l a with | none => none | some b => numF m b
  | [], m, a => rfl
  | c :: l, m, a => by
    rw [List.cons_append, numF, numF]
    split
    · exact numF_app l m _
    · rfl
theorem numF_decK : ∀ k n, n < 10 ^ k → 0 < k → numF (decK k n) 0 = some n
  | 0, _, _, h => by omega
  | k + 1, n, h, _ => by
    rw [decK]
    split
    · rename_i hn
      have := (dgt_ok n hn).2.2.2
      rw [numF, if_pos this.1, this.2, numF]
      simp
    · rename_i hn
      have hk : 0 < k := by
        rcases Nat.eq_zero_or_pos k with e | e
        · subst e; simp at h; omega
        · exact e
      rw [numF_app, numF_decK k (n / 10) (by rw [Nat.pow_succ] at h; omega) hk]
      have hd := (dgt_ok (n % 10) (Nat.mod_lt _ (by omega))).2.2.2
      show numF [dgt (n % 10)] (n / 10) = _
      rw [numF, if_pos hd.1, hd.2, numF]
      congr 1
      omega
theorem decK_head : ∀ k n, 0 < n → n < 10 ^ k → (decK k n).head? ≠ some 48
  | 0, n, h, h2 => by simp [decK]
  | k + 1, n, h, h2 => by
    rw [decK]
    split
    · rename_i hn
      intro e
      have := (dgt_ok n hn).2.2.1 (by simpa using e)
      omega
    · rename_i hn
      have hk : 0 < k := by
        rcases Nat.eq_zero_or_pos k with e | e
        · subst e; simp at h2; omega
        · exact e
      have ih := decK_head k (n / 10) (by omega) (by rw [Nat.pow_succ] at h2; omega)
      have hne := decK_ne k (n / 10) hk
      cases hL : decK k (n / 10) with
      | nil => exact absurd hL hne
      | cons c r =>
        rw [hL] at ih
        simpa using ih
theorem decK_one : ∀ k n, 1 < (decK k n).length → 10 ≤ n
  | 0, n, h => by simp [decK] at h
  | k + 1, n, h => by
    rw [decK] at h
    split at h
    · simp at h
    · omega
/-- A number, written, is read. -/
theorem numV_dec (n : Nat) (h : n < 1000000000000000000) : numV (decL n) = (n, 0) := by
  have e : decL n = decK 18 n := decK_succ 18 n (by omega) (by omega)
  have hl := decK_len 18 n
  have hne := decK_ne 18 n (by omega)
  rw [e]
  unfold numV
  rw [if_neg (by intro h0; exact hne (List.length_eq_zero_iff.1 h0)), if_neg (by omega), if_neg, numF_decK 18 n (by omega) (by omega)]
  rintro ⟨h1, h2⟩
  have := decK_one 18 n h1
  refine decK_head 18 n (by omega) (by omega) ?_
  rw [List.head?_eq_getElem?]
  exact h2
theorem byW_hex (a : Nat) (h : a < 256) : byW (hex2 a) = some a := by
  unfold byW hex2
  rw [fh_hexT a 2 (by omega) (by omega) (by omega), hexT_len]
  rfl
theorem byL_hex : ∀ l : List Nat, (∀ a ∈ l, a < 256) → byL (l.map hex2) = some l
  | [], _ => rfl
  | a :: l, h => by
    rw [List.map_cons, byL, byW_hex a (h a (by simp)), byL_hex l fun b hb => h b (List.mem_cons_of_mem _ hb)]
end Go.Proofs.YtdhdknjefjolpaaDoor
end
section
/-
  Rows of bytes, written and read. Plain: no program in sight.
-/
namespace Go.Proofs.YtdhdknjefjolpaaDoor
set_option linter.unusedSimpArgs false
set_option linter.unusedVariables false
set_option maxRecDepth 10000
open Go.RowKit Go.Shelf Pl
/-- The bytes of a row. -/
def chW (F : Nat → Nat) (n k : Nat) : List Nat := (List.range (min (n - 16 * k) 16)).map fun j => F (16 * k + j)
/-- The words ahead of a row's bytes. -/
def hdW (head : List UInt8) (a : Nat) : List (List UInt8) := if head = wRom then [wRom, hexT a 6] else [head]
def rws (head : List UInt8) (at_ n : Nat) (F : Nat → Nat) (k : Nat) : List UInt8 := rowT (hdW head (at_ + 16 * k) ++ (chW F n k).map hex2)
def byT (l : List Nat) : List UInt8 := l.flatMap fun a => 32 :: hex2 a
def hdT (head : List UInt8) (a : Nat) : List UInt8 := head ++ (if head = wRom then 32 :: hexT a 6 else [])
theorem tail_by (l : List Nat) : Lib.joinTail [32] (l.map hex2) = byT l := by
  unfold Lib.joinTail byT
  rw [List.map_map, List.flatMap_def]
  rfl
theorem byT_snoc (l : List Nat) (a : Nat) : byT (l ++ [a]) = byT l ++ 32 :: hex2 a := by simp [byT]
theorem row_hd (head : List UInt8) (a : Nat) (l : List Nat) : rowT (hdW head a ++ l.map hex2) = hdT head a ++ byT l ++ [10] := by
  unfold rowT hdW hdT
  by_cases h : head = wRom
  · rw [if_pos h, if_pos h, h]
    show Lib.join (wRom :: (hexT a 6 :: l.map hex2)) [32] ++ [10] = _
    rw [Lib.join_cons]
    have : Lib.joinTail [32] (hexT a 6 :: l.map hex2) = 32 :: hexT a 6 ++ byT l := by
      rw [← tail_by]
      simp [Lib.joinTail]
    rw [this, List.append_assoc]
    simp
  · rw [if_neg h, if_neg h]
    show Lib.join (head :: l.map hex2) [32] ++ [10] = _
    rw [Lib.join_cons, tail_by, List.append_nil]
theorem ite_iff {α : Type} {p q : Prop} [Decidable p] [Decidable q] (h : p ↔ q) (a b : α) : (if p then a else b) = if q then a else b := by
  by_cases hp : p
  · rw [if_pos hp, if_pos (h.1 hp)]
  · rw [if_neg hp, if_neg fun e => hp (h.2 e)]
section
variable (head : List UInt8) (at_ n : Nat) (F : Nat → Nat)
theorem rwK_in (q : Nat) : ∀ m, 16 * q + m ≤ n → 1 ≤ m → m ≤ 16 → rwK head at_ n F (16 * q + m) = rwK head at_ n F (16 * q) ++ hdT head (at_ + 16 * q) ++ byT ((List.range m).map fun j => F (16 * q + j)) ++ (if m = 16 ∨ 16 * q + m = n then [10] else [])
  | 0, _, h, _ => by omega
  | m + 1, h, _, h16 => by
    have hnl : ((16 * q + m) % 16 = 15 ∨ 16 * q + m + 1 = n) ↔ (m + 1 = 16 ∨ 16 * q + (m + 1) = n) := by omega
    rw [List.range_succ, List.map_append]
    show rwK head at_ n F (16 * q + m + 1) = _
    rw [rwK, ite_iff hnl]
    rcases Nat.eq_zero_or_pos m with e | hm
    · subst e
      rw [if_pos (by omega)]
      simp [byT, hdT, hex2]
    · rw [if_neg (by omega), rwK_in q m (by omega) hm (by omega), if_neg (by omega)]
      show _ = _ ++ byT (_ ++ [F (16 * q + m)]) ++ _
      rw [byT_snoc]
      simp [hex2]
theorem rwK_full : ∀ q, 16 * q ≤ n → rwK head at_ n F (16 * q) = (List.range q).flatMap (rws head at_ n F)
  | 0, _ => rfl
  | q + 1, h => by
    rw [show 16 * (q + 1) = 16 * q + 16 by omega, rwK_in head at_ n F q 16 (by omega) (by omega) (Nat.le_refl _), if_pos (Or.inl rfl), rwK_full q (by omega), List.range_succ (n := q), List.flatMap_append]
    simp only [List.flatMap_cons, List.flatMap_nil, List.append_nil]
    unfold rws chW
    rw [row_hd, Nat.min_eq_right (by omega)]
    simp only [List.append_assoc]
/-- The document's rows are rows of words. -/
theorem rwK_rows : rwK head at_ n F n = (List.range ((n + 15) / 16)).flatMap (rws head at_ n F) := by
  have hd := Nat.div_add_mod n 16
  generalize hq : n / 16 = q at hd
  rcases Nat.eq_zero_or_pos (n % 16) with e | e
  · have h := rwK_full head at_ n F q (by omega)
    rw [show 16 * q = n by omega] at h
    rw [show (n + 15) / 16 = q by omega]
    exact h
  · generalize hm : n % 16 = m at *
    have h := rwK_in head at_ n F q m (by omega) e (by omega)
    rw [show 16 * q + m = n by omega, if_pos (Or.inr rfl), rwK_full head at_ n F q (by omega)] at h
    rw [show (n + 15) / 16 = q + 1 by omega, List.range_succ, List.flatMap_append]
    simp only [List.flatMap_cons, List.flatMap_nil, List.append_nil]
    refine h.trans ?_
    unfold rws chW
    rw [row_hd, show min (n - 16 * q) 16 = m by omega]
    simp only [List.append_assoc]
end
theorem chW_len (F : Nat → Nat) (n k : Nat) : (chW F n k).length = min (n - 16 * k) 16 := by simp [chW]
theorem chW_lt {F : Nat → Nat} (hF : ∀ i, F i < 256) (n k : Nat) : ∀ b ∈ chW F n k, b < 256 := by
  intro b hb
  unfold chW at hb
  obtain ⟨j, _, rfl⟩ := List.mem_map.1 hb
  exact hF _
theorem range_chW (F : Nat → Nat) (n k : Nat) (h : 16 * k < n) : (List.range (min n (16 * k))).map F ++ chW F n k = (List.range (min n (16 * (k + 1)))).map F := by
  unfold chW
  rw [Nat.min_eq_right (show 16 * k ≤ n by omega), show min n (16 * (k + 1)) = 16 * k + min (n - 16 * k) 16 by omega, List.range_add, List.map_append, List.map_map]
  rfl
theorem wd_ok : wOk wPages ∧ wOk wBudget ∧ wOk wRom ∧ wOk wVdc ∧ wOk wVce ∧ wOk wPort ∧ wOk wUp ∧ wOk wDown := by
  unfold wOk
  decide
theorem byL_cons {l : List Nat} (h0 : l ≠ []) (hb : ∀ b ∈ l, b < 256) : ∃ a r, l = a :: r ∧ byL (l.map hex2) = some (a :: r) := by
  cases l with
  | nil => exact absurd rfl h0
  | cons a r => exact ⟨a, r, rfl, byL_hex _ hb⟩
theorem line_rom (T : Tl) (a : Nat) (l : List Nat) (ha : a < 16777216) (h0 : l ≠ []) (hb : ∀ b ∈ l, b < 256) : lineT T (wRom :: hexT a 6 :: l.map hex2) = (0, { T with ps := T.ps ++ [(a, l)] }) := by
  unfold lineT
  dsimp only
  rw [if_neg (by decide), if_neg (by decide), if_pos rfl]
  have hh := byL_hex l hb
  cases l with
  | nil => exact absurd rfl h0
  | cons b r =>
    rw [List.map_cons] at hh ⊢
    unfold romT
    dsimp only
    rw [hexT_len, fh_hexT a 6 (by omega) (by omega) (by omega), if_pos ⟨rfl, rfl⟩, hh]
theorem line_vdc (T : Tl) (l : List Nat) (h0 : l ≠ []) (hb : ∀ b ∈ l, b < 256) : lineT T (wVdc :: l.map hex2) = (0, { T with f0 := T.f0 ++ l }) := by
  obtain ⟨a, r, rfl, hh⟩ := byL_cons h0 hb
  unfold lineT
  dsimp only
  rw [if_neg (by decide), if_neg (by decide), if_neg (by decide), if_pos rfl]
  unfold feedT
  rw [hh]
  rfl
theorem line_vce (T : Tl) (l : List Nat) (h0 : l ≠ []) (hb : ∀ b ∈ l, b < 256) : lineT T (wVce :: l.map hex2) = (0, { T with f1 := T.f1 ++ l }) := by
  obtain ⟨a, r, rfl, hh⟩ := byL_cons h0 hb
  unfold lineT
  dsimp only
  rw [if_neg (by decide), if_neg (by decide), if_neg (by decide), if_neg (by decide), if_pos rfl]
  unfold feedT
  rw [hh]
  rfl
theorem line_port (T : Tl) (l : List Nat) (h0 : l ≠ []) (hb : ∀ b ∈ l, b < 256) : lineT T (wPort :: l.map hex2) = (0, { T with f2 := T.f2 ++ l }) := by
  obtain ⟨a, r, rfl, hh⟩ := byL_cons h0 hb
  unfold lineT
  dsimp only
  rw [if_neg (by decide), if_neg (by decide), if_neg (by decide), if_neg (by decide), if_neg (by decide), if_pos rfl]
  unfold feedT
  rw [hh]
  rfl
theorem chW_ne {F : Nat → Nat} {n k : Nat} (h : 16 * k < n) : chW F n k ≠ [] := by
  intro e
  have := chW_len F n k
  rw [e] at this
  simp at this
  omega
theorem map_ok (l : List Nat) : ∀ y ∈ l.map hex2, wOk y := by
  intro y hy
  obtain ⟨a, _, rfl⟩ := List.mem_map.1 hy
  exact hex2_ok a
/-- Rows of an image, read. -/
def chP (a n : Nat) (F : Nat → Nat) (k : Nat) : Nat × List Nat := (a + 16 * k, chW F n k)
def chL (a n : Nat) (F : Nat → Nat) : List (Nat × List Nat) := (List.range ((n + 15) / 16)).map (chP a n F)
theorem goes_rom (T : Tl) (a n : Nat) (F : Nat → Nat) (hF : ∀ i, F i < 256) (ha : a + n ≤ 16777216) : Goes (rwK wRom a n F n) T { T with ps := T.ps ++ chL a n F } := by
  rw [rwK_rows]
  have h := Goes.rangeF (rws wRom a n F) (fun k => { T with ps := T.ps ++ (List.range k).map (chP a n F) }) ((n + 15) / 16) (fun k hk => by
    have e : rws wRom a n F k = rowT (wRom :: (hexT (a + 16 * k) 6 :: (chW F n k).map hex2)) := by unfold rws hdW; rw [if_pos rfl]; rfl
    rw [e]
    refine Goes.row ?_ (by decide) ?_
    · intro y hy
      rcases List.mem_cons.1 hy with rfl | hy
      · exact wd_ok.2.2.1
      · rcases List.mem_cons.1 hy with rfl | hy
        · exact hexT_ok _ 6 (by omega)
        · exact map_ok _ y hy
    · rw [line_rom _ _ _ (by omega) (chW_ne (by omega)) (chW_lt hF n k)]
      simp [List.range_succ, chP])
  have e0 : ({ T with ps := T.ps ++ (List.range 0).map (chP a n F) } : Tl) = T := by cases T; simp
  rw [e0] at h
  exact h
theorem goes_vdc (T : Tl) (n : Nat) (F : Nat → Nat) (hF : ∀ i, F i < 256) (h0 : T.f0 = []) : Goes (rwK wVdc 0 n F n) T { T with f0 := (List.range n).map F } := by
  rw [rwK_rows]
  have h := Goes.rangeF (rws wVdc 0 n F) (fun k => { T with f0 := (List.range (min n (16 * k))).map F }) ((n + 15) / 16) (fun k hk => by
    have e : rws wVdc 0 n F k = rowT (wVdc :: (chW F n k).map hex2) := by unfold rws hdW; rw [if_neg (by decide)]; rfl
    rw [e]
    refine Goes.row ?_ (by decide) ?_
    · intro y hy
      rcases List.mem_cons.1 hy with rfl | hy
      · exact wd_ok.2.2.2.1
      · exact map_ok _ y hy
    · rw [line_vdc _ _ (chW_ne (by omega)) (chW_lt hF n k)]
      dsimp only
      rw [range_chW F n k (by omega)])
  have e0 : ({ T with f0 := (List.range (min n (16 * 0))).map F } : Tl) = T := by
    cases T
    simp at h0
    simp [h0]
  have e1 : min n (16 * ((n + 15) / 16)) = n := by omega
  rw [e0, e1] at h
  exact h
theorem goes_vce (T : Tl) (n : Nat) (F : Nat → Nat) (hF : ∀ i, F i < 256) (h0 : T.f1 = []) : Goes (rwK wVce 0 n F n) T { T with f1 := (List.range n).map F } := by
  rw [rwK_rows]
  have h := Goes.rangeF (rws wVce 0 n F) (fun k => { T with f1 := (List.range (min n (16 * k))).map F }) ((n + 15) / 16) (fun k hk => by
    have e : rws wVce 0 n F k = rowT (wVce :: (chW F n k).map hex2) := by unfold rws hdW; rw [if_neg (by decide)]; rfl
    rw [e]
    refine Goes.row ?_ (by decide) ?_
    · intro y hy
      rcases List.mem_cons.1 hy with rfl | hy
      · exact wd_ok.2.2.2.2.1
      · exact map_ok _ y hy
    · rw [line_vce _ _ (chW_ne (by omega)) (chW_lt hF n k)]
      dsimp only
      rw [range_chW F n k (by omega)])
  have e0 : ({ T with f1 := (List.range (min n (16 * 0))).map F } : Tl) = T := by
    cases T
    simp at h0
    simp [h0]
  have e1 : min n (16 * ((n + 15) / 16)) = n := by omega
  rw [e0, e1] at h
  exact h
theorem goes_port (T : Tl) (n : Nat) (F : Nat → Nat) (hF : ∀ i, F i < 256) (h0 : T.f2 = []) : Goes (rwK wPort 0 n F n) T { T with f2 := (List.range n).map F } := by
  rw [rwK_rows]
  have h := Goes.rangeF (rws wPort 0 n F) (fun k => { T with f2 := (List.range (min n (16 * k))).map F }) ((n + 15) / 16) (fun k hk => by
    have e : rws wPort 0 n F k = rowT (wPort :: (chW F n k).map hex2) := by unfold rws hdW; rw [if_neg (by decide)]; rfl
    rw [e]
    refine Goes.row ?_ (by decide) ?_
    · intro y hy
      rcases List.mem_cons.1 hy with rfl | hy
      · exact wd_ok.2.2.2.2.2.1
      · exact map_ok _ y hy
    · rw [line_port _ _ (chW_ne (by omega)) (chW_lt hF n k)]
      dsimp only
      rw [range_chW F n k (by omega)])
  have e0 : ({ T with f2 := (List.range (min n (16 * 0))).map F } : Tl) = T := by
    cases T
    simp at h0
    simp [h0]
  have e1 : min n (16 * ((n + 15) / 16)) = n := by omega
  rw [e0, e1] at h
  exact h
/-- Pieces, read. -/
def chQ (F : Nat → Nat) (ps : List (Nat × Nat)) : List (Nat × List Nat) := ps.flatMap fun x => chL x.1 (x.2 - x.1) (fun j => F (x.1 + j))
theorem goes_pieces (F : Nat → Nat) (hF : ∀ i, F i < 256) : ∀ (ps : List (Nat × Nat)) (T : Tl), (∀ x ∈ ps, x.1 < x.2 ∧ x.2 ≤ 1048576) → Goes (pcT F ps) T { T with ps := T.ps ++ chQ F ps }
  | [], T, _ => by
    have e : ({ T with ps := T.ps ++ chQ F [] } : Tl) = T := by cases T; simp [chQ]
    rw [e]
    exact Goes.nil T
  | x :: ps, T, h => by
    have hx := h x (by simp)
    have h1 := goes_rom T x.1 (x.2 - x.1) (fun j => F (x.1 + j)) (fun _ => hF _) (by omega)
    have h2 := goes_pieces F hF ps { T with ps := T.ps ++ chL x.1 (x.2 - x.1) (fun j => F (x.1 + j)) } fun y hy => h y (List.mem_cons_of_mem _ hy)
    have e : pcT F (x :: ps) = rwK wRom x.1 (x.2 - x.1) (fun j => F (x.1 + j)) (x.2 - x.1) ++ pcT F ps := by simp [pcT]
    have e2 : chQ F (x :: ps) = chL x.1 (x.2 - x.1) (fun j => F (x.1 + j)) ++ chQ F ps := by simp [chQ]
    rw [e, e2]
    have := h1.trans h2
    simpa using this
/-! ### edges, pages, budget -/
theorem lineK_nmF (k : Nat) (h : k < 4) : lineK (nmF k) = some k := by
  match k, h with
  | 0, _ => decide
  | 1, _ => decide
  | 2, _ => decide
  | 3, _ => decide
theorem nmF_ok (k : Nat) : wOk (nmF k) := by
  have : wOk wReset ∧ wOk wNmi ∧ wOk wIrq1 ∧ wOk wIrq2 := by unfold wOk; decide
  unfold nmF
  split
  · exact this.1
  · exact this.2.1
  · exact this.2.2.1
  · exact this.2.2.2
theorem edT_row (St : Nat → Nat) (Ln : Nat → Nat) (Up : Nat → Bool) (i : Nat) : edT St Ln Up i = rowT [if Up i then wUp else wDown, decL (St i), nmF (Ln i)] := by
  unfold edT rowT
  rw [Lib.join_cons]
  simp [Lib.joinTail]
theorem goes_edges (T : Tl) (St : Nat → Nat) (Ln : Nat → Nat) (Up : Nat → Bool) (ne : Nat) (h0 : T.ed = []) (hS : ∀ i, i < ne → St i < 1000000000000000000) (hL : ∀ i, i < ne → Ln i < 4) :
    Goes (edsT St Ln Up ne) T { T with ed := (List.range ne).map fun i => (St i, Ln i, Up i) } := by
  have h := Goes.rangeF (edT St Ln Up) (fun k => { T with ed := (List.range k).map fun i => (St i, Ln i, Up i) }) ne (fun k hk => by
    rw [edT_row]
    refine Goes.row ?_ ?_ ?_
    · intro y hy
      simp only [List.mem_cons, List.not_mem_nil, or_false] at hy
      rcases hy with rfl | rfl | rfl
      · split
        · exact wd_ok.2.2.2.2.2.2.1
        · exact wd_ok.2.2.2.2.2.2.2
      · exact decL_ok _
      · exact nmF_ok _
    · split <;> decide
    · have hn := numV_dec (St k) (hS k hk)
      have hk2 := lineK_nmF (Ln k) (hL k hk)
      cases hu : Up k with
      | true =>
        rw [if_pos rfl]
        unfold lineT
        dsimp only
        rw [if_neg (by decide), if_neg (by decide), if_neg (by decide), if_neg (by decide), if_neg (by decide), if_neg (by decide), if_pos rfl]
        unfold edgeT
        dsimp only
        rw [hn, hk2, if_neg (by simp)]
        simp [List.range_succ, hu]
      | false =>
        rw [if_neg (by decide)]
        unfold lineT
        dsimp only
        rw [if_neg (by decide), if_neg (by decide), if_neg (by decide), if_neg (by decide), if_neg (by decide), if_neg (by decide), if_neg (by decide), if_pos rfl]
        unfold edgeT
        dsimp only
        rw [hn, hk2, if_neg (by simp)]
        simp [List.range_succ, hu])
  have e0 : ({ T with ed := (List.range 0).map fun i => (St i, Ln i, Up i) } : Tl) = T := by
    cases T
    simp at h0
    simp [h0]
  rw [e0] at h
  exact h
theorem goes_pages (T : Tl) (p : Nat) (h0 : T.pg = none) (h1 : 1 ≤ p) (h2 : p ≤ 128) : Goes (wPages ++ 32 :: decL p ++ [10]) T { T with pg := some p } := by
  have e : wPages ++ 32 :: decL p ++ [10] = rowT [wPages, decL p] := by
    unfold rowT
    rw [Lib.join_cons]
    simp [Lib.joinTail]
  rw [e]
  refine Goes.row ?_ (by decide) ?_
  · intro y hy
    simp only [List.mem_cons, List.not_mem_nil, or_false] at hy
    rcases hy with rfl | rfl
    · exact wd_ok.1
    · exact decL_ok _
  · unfold lineT
    dsimp only
    rw [if_pos rfl]
    have hnl : numL [decL p] = (p, 0) := by simp [numL, numV_dec p (by omega)]
    unfold onceT
    rw [hnl, h0]
    simp
    omega
theorem goes_budget (T : Tl) (b : Nat) (h0 : T.bd = none) (h1 : b < 1000000000000000000) : Goes (wBudget ++ 32 :: decL b ++ [10]) T { T with bd := some b } := by
  have e : wBudget ++ 32 :: decL b ++ [10] = rowT [wBudget, decL b] := by
    unfold rowT
    rw [Lib.join_cons]
    simp [Lib.joinTail]
  rw [e]
  refine Goes.row ?_ (by decide) ?_
  · intro y hy
    simp only [List.mem_cons, List.not_mem_nil, or_false] at hy
    rcases hy with rfl | rfl
    · exact wd_ok.2.1
    · exact decL_ok _
  · unfold lineT
    dsimp only
    rw [if_neg (by decide), if_pos rfl]
    have hnl : numL [decL b] = (b, 0) := by simp [numL, numV_dec b h1]
    unfold onceT
    rw [hnl, h0]
    simp
end Go.Proofs.YtdhdknjefjolpaaDoor
end
section
/-
  A script, written, is read again, and its text is not too long. Plain: no program in sight.
-/
namespace Go.Proofs.YtdhdknjefjolpaaDoor
set_option linter.unusedSimpArgs false
set_option linter.unusedVariables false
set_option maxRecDepth 10000
open Go.RowKit Go.Shelf Pl
/-! ### the image that rows tell -/
def layQ (G : Nat → Int) (q : Nat × List Nat) : Nat → Int := layF G q.1 q.2.length (byF q.2)
def mkQ (l : List (Nat × List Nat)) : Nat → Int := l.foldl layQ (fun _ => 0)
theorem mkF_mkQ (l : List (Nat × List Nat)) : ∀ k, k ≤ l.length → mkF (psA l) (psN l) (psB l) k = mkQ (l.take k)
  | 0, _ => rfl
  | k + 1, h => by
    have hk : k < l.length := h
    have e : l.take (k + 1) = l.take k ++ [l.getD k (0, [])] := by
      rw [List.take_add_one]
      simp [List.getD, hk]
    have e2 : mkQ (l.take k ++ [l.getD k (0, [])]) = layQ (mkQ (l.take k)) (l.getD k (0, [])) := by
      unfold mkQ
      rw [List.foldl_append]
      rfl
    rw [e, e2]
    show layF (mkF (psA l) (psN l) (psB l) k) (psA l k).toNat (psN l k) (psB l k) = layQ (mkQ (l.take k)) (l.getD k (0, []))
    rw [mkF_mkQ l k (by omega)]
    unfold layQ psA psN psB
    rw [Int.toNat_natCast]
theorem romF_mkQ (l : List (Nat × List Nat)) : romF l = mkQ l := by
  unfold romF
  rw [mkF_mkQ l _ (Nat.le_refl _), List.take_length]
theorem byF_chW (F : Nat → Nat) (n k j : Nat) (h : j < min (n - 16 * k) 16) : byF (chW F n k) j = (F (16 * k + j) : Int) := by
  unfold byF chW
  rw [List.getD_eq_getElem?_getD, List.getElem?_map, List.getElem?_range h]
  rfl
theorem fold_chK (G : Nat → Int) (a n : Nat) (F : Nat → Nat) : ∀ k, k ≤ (n + 15) / 16 → ((List.range k).map (chP a n F)).foldl layQ G = layF G a (min n (16 * k)) (fun j => (F j : Int))
  | 0, _ => by
    rw [show min n (16 * 0) = 0 by omega, layF_zero]
    rfl
  | k + 1, h => by
    rw [List.range_succ, List.map_append, List.foldl_append, fold_chK G a n F k (by omega)]
    show layQ (layF G a (min n (16 * k)) _) (chP a n F k) = _
    unfold layQ chP
    rw [chW_len]
    funext i
    unfold layF
    dsimp only
    by_cases h1 : a + 16 * k ≤ i ∧ i < a + 16 * k + min (n - 16 * k) 16
    · rw [if_pos h1, if_pos (by omega), byF_chW F n k _ (by omega)]
      congr 2
      omega
    · rw [if_neg h1]
      by_cases h2 : a ≤ i ∧ i < a + min n (16 * k)
      · rw [if_pos h2, if_pos (by omega)]
      · rw [if_neg h2, if_neg (by omega)]
theorem fold_chL (G : Nat → Int) (a n : Nat) (F : Nat → Nat) : (chL a n F).foldl layQ G = layF G a n (fun j => (F j : Int)) := by
  unfold chL
  rw [fold_chK G a n F _ (Nat.le_refl _), show min n (16 * ((n + 15) / 16)) = n by omega]
theorem fold_chQ (F : Nat → Nat) : ∀ (ps : List (Nat × Nat)) (G : Nat → Int), (chQ F ps).foldl layQ G = ps.foldl (fun G x => layF G x.1 (x.2 - x.1) (fun j => (F (x.1 + j) : Int))) G
  | [], G => rfl
  | x :: ps, G => by
    have e : chQ F (x :: ps) = chL x.1 (x.2 - x.1) (fun j => F (x.1 + j)) ++ chQ F ps := by simp [chQ]
    rw [e, List.foldl_append, fold_chL, fold_chQ F ps]
    rfl
/-- The image that the rows of an image tell. -/
theorem rom_told (F : Nat → Nat) (n : Nat) : romF (chQ F (runsP (fun i => (F i : Int)) n)) = fun j => if j < n then (F j : Int) else 0 := by
  rw [romF_mkQ, ← mkL_runs]
  exact fold_chQ F _ _
theorem fit_told (F : Nat → Nat) (n : Nat) : fitP n (chQ F (runsP (fun i => (F i : Int)) n)) := by
  intro i hi
  have hm : (chQ F (runsP (fun i => (F i : Int)) n)).getD i (0, []) ∈ chQ F (runsP (fun i => (F i : Int)) n) := by
    rw [List.getD_eq_getElem?_getD, List.getElem?_eq_getElem hi]
    exact List.getElem_mem hi
  unfold psA psN Fits
  generalize (chQ F (runsP (fun i => (F i : Int)) n)).getD i (0, []) = q at *
  unfold chQ at hm
  obtain ⟨x, hx, hq⟩ := List.mem_flatMap.1 hm
  unfold chL at hq
  obtain ⟨k, hk, rfl⟩ := List.mem_map.1 hq
  have hxx := runs_le n x hx
  have hk := List.mem_range.1 hk
  unfold chP
  dsimp only
  rw [chW_len]
  omega
/-! ### all told -/
section
variable (n : Nat) (F : Nat → Nat) (l0 l1 l2 : Nat) (F0 F1 F2 : Nat → Nat) (ne : Nat) (St : Nat → Nat) (Ln : Nat → Nat) (Up : Nat → Bool) (bud : Nat)
def txTl : Tl := ⟨some (n / 8192), some bud, chQ F (runsP (fun i => (F i : Int)) n), (List.range l0).map F0, (List.range l1).map F1, (List.range l2).map F2, (List.range ne).map fun i => (St i, Ln i, Up i)⟩
theorem goes_txT (h1 : 1 ≤ n / 8192) (h2 : n / 8192 ≤ 128) (hn : n ≤ 1048576) (hF : ∀ i, F i < 256) (hF0 : ∀ i, F0 i < 256) (hF1 : ∀ i, F1 i < 256) (hF2 : ∀ i, F2 i < 256) (hS : ∀ i, i < ne → St i < 1000000000000000000) (hL : ∀ i, i < ne → Ln i < 4) (hb : bud < 1000000000000000000) :
    Goes (txT n F l0 l1 l2 F0 F1 F2 ne St Ln Up bud) T0 (txTl n F l0 l1 l2 F0 F1 F2 ne St Ln Up bud) := by
  have a1 := goes_pages T0 (n / 8192) rfl h1 h2
  have a2 := goes_pieces F hF (runsP (fun i => (F i : Int)) n) { T0 with pg := some (n / 8192) } (fun x hx => by have := runs_le n x hx; omega)
  have a3 := goes_vdc { T0 with pg := some (n / 8192), ps := [] ++ chQ F (runsP (fun i => (F i : Int)) n) } l0 F0 hF0 rfl
  have a4 := goes_vce { T0 with pg := some (n / 8192), ps := [] ++ chQ F (runsP (fun i => (F i : Int)) n), f0 := (List.range l0).map F0 } l1 F1 hF1 rfl
  have a5 := goes_port { T0 with pg := some (n / 8192), ps := [] ++ chQ F (runsP (fun i => (F i : Int)) n), f0 := (List.range l0).map F0, f1 := (List.range l1).map F1 } l2 F2 hF2 rfl
  have a6 := goes_edges { T0 with pg := some (n / 8192), ps := [] ++ chQ F (runsP (fun i => (F i : Int)) n), f0 := (List.range l0).map F0, f1 := (List.range l1).map F1, f2 := (List.range l2).map F2 } St Ln Up ne rfl hS hL
  have a7 := goes_budget { T0 with pg := some (n / 8192), ps := [] ++ chQ F (runsP (fun i => (F i : Int)) n), f0 := (List.range l0).map F0, f1 := (List.range l1).map F1, f2 := (List.range l2).map F2, ed := (List.range ne).map fun i => (St i, Ln i, Up i) } bud rfl hb
  have h := (((((a1.trans a2).trans a3).trans a4).trans a5).trans a6).trans a7
  have e : txT n F l0 l1 l2 F0 F1 F2 ne St Ln Up bud = wPages ++ 32 :: decL (n / 8192) ++ [10] ++ pcT F (runsP (fun i => (F i : Int)) n) ++ rwK wVdc 0 l0 F0 l0 ++ rwK wVce 0 l1 F1 l1 ++ rwK wPort 0 l2 F2 l2 ++ edsT St Ln Up ne ++ (wBudget ++ 32 :: decL bud ++ [10]) := by
    unfold txT txC txB txA
    simp only [List.append_assoc]
  rw [e]
  exact h
end
theorem getD_told {α : Type} (f : Nat → α) (ne i : Nat) (d : α) (h : i < ne) : ((List.range ne).map f).getD i d = f i := by
  rw [List.getD_eq_getElem?_getD, List.getElem?_map, List.getElem?_range h]
  rfl
theorem chkE_congr {St St' : Nat → Int} {Ln Ln' : Nat → Nat} : ∀ (m i : Nat), (∀ j, j < i + m → St j = St' j ∧ Ln j = Ln' j) → chkE St Ln m i = chkE St' Ln' m i
  | 0, i, _ => rfl
  | m + 1, i, h => by
    have h0 := h i (by omega)
    have h1 := h (i - 1) (by omega)
    unfold chkE
    have e : wrE St Ln i = wrE St' Ln' i := by unfold wrE; rw [h0.1, h0.2, h1.1]
    rw [e, chkE_congr m (i + 1) fun j hj => h j (by omega)]
theorem chkV_congr {St St' : Nat → Int} {Ln Ln' : Nat → Nat} {n : Nat} (h : ∀ j, j < n → St j = St' j ∧ Ln j = Ln' j) : chkV St Ln n = chkV St' Ln' n := by
  unfold chkV
  rw [chkE_congr n 0 fun j hj => h j (by omega)]
theorem chkS_congr {St St' : Nat → Int} {Ln Ln' : Nat → Nat} {n l0 l1 l2 ne : Nat} {bud : Int} (h : ∀ j, j < ne → St j = St' j ∧ Ln j = Ln' j) : chkS n l0 l1 l2 ne St Ln bud = chkS n l0 l1 l2 ne St' Ln' bud := by
  unfold chkS
  rw [chkV_congr h]
/-! ### its length -/
theorem rwK_long (head : List UInt8) (at_ n : Nat) (F : Nat → Nat) (hh : head.length ≤ 4) (h4 : head.length = 3 ∨ head ≠ wRom) : ∀ k, k ≤ n → (rwK head at_ n F k).length + (if k % 16 = 0 ∨ k = n then 0 else 1) ≤ 3 * k + 11 * ((k + 15) / 16)
  | 0, _ => by simp [rwK]
  | k + 1, h => by
    have ih := rwK_long head at_ n F hh h4 k (by omega)
    rw [rwK, List.length_append, List.length_append, List.length_append]
    have h2 : ((32 : UInt8) :: hexT (F k) 2).length = 3 := by simp [hexT_len]
    have h1 : (head ++ (if head = wRom then 32 :: hexT (at_ + k) 6 else [])).length ≤ 10 := by
      rw [List.length_append]
      split
      · rename_i e
        rw [e]
        simp [hexT_len, wRom]
      · simp; omega
    rw [h2]
    by_cases e0 : k % 16 = 0
    · rw [if_pos (Or.inl e0)] at ih
      rw [if_pos e0]
      by_cases e1 : k % 16 = 15 ∨ k + 1 = n
      · rw [if_pos e1, if_pos (show (k + 1) % 16 = 0 ∨ k + 1 = n by omega)]
        simp only [List.length_cons, List.length_nil]
        omega
      · rw [if_neg e1, if_neg (show ¬ ((k + 1) % 16 = 0 ∨ k + 1 = n) by omega)]
        simp only [List.length_nil]
        omega
    · rw [if_neg (by omega)] at ih
      rw [if_neg e0]
      by_cases e1 : k % 16 = 15 ∨ k + 1 = n
      · rw [if_pos e1, if_pos (show (k + 1) % 16 = 0 ∨ k + 1 = n by omega)]
        simp only [List.length_cons, List.length_nil]
        omega
      · rw [if_neg e1, if_neg (show ¬ ((k + 1) % 16 = 0 ∨ k + 1 = n) by omega)]
        simp only [List.length_nil]
        omega
def w7 (ps : List (Nat × Nat)) : Nat := (ps.map fun x => 7 * (x.2 - x.1) + 7).sum
theorem w7_snoc (ps : List (Nat × Nat)) (x : Nat × Nat) : w7 (ps ++ [x]) = w7 ps + (7 * (x.2 - x.1) + 7) := by simp [w7]
theorem w7_runs (F : Nat → Int) : ∀ i, w7 (runsP F i) ≤ 7 * i + (if 0 < i ∧ F (i - 1) ≠ 0 then 7 else 0)
  | 0 => by simp [runsP, w7]
  | i + 1 => by
    have ih := w7_runs F i
    unfold runsP
    by_cases h1 : F i = 0
    · rw [if_pos h1]
      have : (if 0 < i ∧ F (i - 1) ≠ 0 then 7 else 0) ≤ 7 := by split <;> omega
      omega
    · rw [if_neg h1, if_pos (⟨by omega, h1⟩ : 0 < i + 1 ∧ F (i + 1 - 1) ≠ 0)]
      by_cases h2 : 0 < i ∧ F (i - 1) ≠ 0
      · rw [if_pos h2] at ih ⊢
        obtain ⟨ps, f, e, hf⟩ := runs_last i h2.1 h2.2
        rw [e, w7_snoc] at ih
        rw [e, extL_snoc, w7_snoc]
        dsimp only at ih ⊢
        omega
      · rw [if_neg h2] at ih ⊢
        rw [w7_snoc]
        dsimp only
        omega
theorem pcT_long (F : Nat → Nat) : ∀ ps : List (Nat × Nat), (∀ x ∈ ps, x.1 < x.2) → (pcT F ps).length ≤ w7 ps
  | [], _ => by simp [pcT, w7]
  | x :: ps, h => by
    have e : pcT F (x :: ps) = rwK wRom x.1 (x.2 - x.1) (fun j => F (x.1 + j)) (x.2 - x.1) ++ pcT F ps := by simp [pcT]
    have hx := h x (by simp)
    have h1 := rwK_long wRom x.1 (x.2 - x.1) (fun j => F (x.1 + j)) (by decide) (Or.inl rfl) (x.2 - x.1) (Nat.le_refl _)
    have h2 := pcT_long F ps fun y hy => h y (List.mem_cons_of_mem _ hy)
    rw [if_pos (Or.inr rfl)] at h1
    have e2 : w7 (x :: ps) = 7 * (x.2 - x.1) + 7 + w7 ps := by simp [w7]
    rw [e, e2, List.length_append]
    omega
theorem pcT_take (F : Nat → Nat) (ps : List (Nat × Nat)) (k : Nat) : (pcT F (ps.take k)).length ≤ (pcT F ps).length := by
  have e : pcT F ps = pcT F (ps.take k) ++ pcT F (ps.drop k) := by
    unfold pcT
    rw [← List.flatMap_append, List.take_append_drop]
  rw [e, List.length_append]
  omega
theorem pcT_runs (F : Nat → Nat) (n k : Nat) (hn : n ≤ 16384) : (pcT F ((runsP (fun i => (F i : Int)) n).take k)).length ≤ 114695 := by
  have h1 := pcT_take F (runsP (fun i => (F i : Int)) n) k
  have h2 := pcT_long F (runsP (fun i => (F i : Int)) n) fun x hx => (runs_le n x hx).1
  have h3 := w7_runs (fun i => (F i : Int)) n
  have h4 : (if 0 < n ∧ (F (n - 1) : Int) ≠ 0 then 7 else 0) ≤ 7 := by split <;> omega
  omega
theorem nmF_le (x : Nat) : (nmF x).length ≤ 5 := by
  unfold nmF
  split <;> decide
theorem edsT_long (St : Nat → Nat) (Ln : Nat → Nat) (Up : Nat → Bool) : ∀ n, (edsT St Ln Up n).length ≤ 40 * n
  | 0 => by simp [edsT]
  | n + 1 => by
    rw [edsT_snoc, List.length_append]
    have ih := edsT_long St Ln Up n
    have h : (edT St Ln Up n).length ≤ 40 := by
      unfold edT
      have h1 := decL_len (St n)
      have h2 := nmF_le (Ln n)
      have h3 : (if Up n then wUp else wDown).length ≤ 4 := by split <;> decide
      simp only [List.length_append, List.length_cons, List.length_nil]
      omega
    omega
theorem txC_len (n : Nat) (F : Nat → Nat) (l0 l1 l2 : Nat) (F0 F1 F2 : Nat → Nat) (hn : n ≤ 16384) (h0 : l0 ≤ 300) (h1 : l1 ≤ 300) (h2 : l2 ≤ 300) : (txC n F l0 l1 l2 F0 F1 F2).length ≤ 129000 := by
  have hp := pcT_runs F n (runsP (fun i => (F i : Int)) n).length hn
  rw [List.take_length] at hp
  have g0 := rwK_len wVdc 0 l0 F0 (by decide) l0
  have g1 := rwK_len wVce 0 l1 F1 (by decide) l1
  have g2 := rwK_len wPort 0 l2 F2 (by decide) l2
  have hd := decL_len (n / 8192)
  unfold txC txB txA
  simp only [List.length_append, List.length_cons, List.length_nil, wPages]
  omega
theorem txT_len (n : Nat) (F : Nat → Nat) (l0 l1 l2 : Nat) (F0 F1 F2 : Nat → Nat) (ne : Nat) (St : Nat → Nat) (Ln : Nat → Nat) (Up : Nat → Bool) (bud : Nat) (hn : n ≤ 16384) (h0 : l0 ≤ 300) (h1 : l1 ≤ 300) (h2 : l2 ≤ 300) (he : ne ≤ 200) : (txT n F l0 l1 l2 F0 F1 F2 ne St Ln Up bud).length ≤ 140000 := by
  have hc := txC_len n F l0 l1 l2 F0 F1 F2 hn h0 h1 h2
  have hed := edsT_long St Ln Up ne
  have hd := decL_len bud
  unfold txT
  simp only [List.length_append, List.length_cons, List.length_nil, wBudget]
  omega
open Classical in
/-- A script's text is that script. -/
theorem parV_txT (n : Nat) (F : Nat → Nat) (l0 l1 l2 : Nat) (F0 F1 F2 : Nat → Nat) (ne : Nat) (St : Nat → Nat) (Ln : Nat → Nat) (Up : Nat → Bool) (bud : Nat) (hn : n ≤ 20000) (h0 : l0 ≤ 300) (h1 : l1 ≤ 300) (h2 : l2 ≤ 300) (he : ne ≤ 200)
    (hF : ∀ i, F i < 256) (hF0 : ∀ i, F0 i < 256) (hF1 : ∀ i, F1 i < 256) (hF2 : ∀ i, F2 i < 256) (hk : ChkOk n) (hS : ∀ i, i < ne → St i < 1000000000000000000) (hL : ∀ i, i < ne → Ln i < 4) (hb : bud < 1000000000000000000)
    (hc : chkS n l0 l1 l2 ne (fun i => (St i : Int)) Ln (bud : Int) = (0, 0)) : parV (txT n F l0 l1 l2 F0 F1 F2 ne St Ln Up bud) = .inr (n / 8192, bud, txTl n F l0 l1 l2 F0 F1 F2 ne St Ln Up bud) := by
  obtain ⟨k1, k2, k3⟩ := hk
  have hlen := txT_len n F l0 l1 l2 F0 F1 F2 ne St Ln Up bud (by omega) h0 h1 h2 he
  obtain ⟨n', hg⟩ := goes_txT n F l0 l1 l2 F0 F1 F2 ne St Ln Up bud k1 k2 (by omega) hF hF0 hF1 hF2 hS hL hb 0 []
  rw [List.append_nil] at hg
  have hg2 : parG T0 0 [] (txT n F l0 l1 l2 F0 F1 F2 ne St Ln Up bud) = (0, 0, txTl n F l0 l1 l2 F0 F1 F2 ne St Ln Up bud) := hg
  unfold parV
  rw [if_neg (by omega), hg2, if_pos rfl]
  have hfit : fitP (n / 8192 * 8192) (txTl n F l0 l1 l2 F0 F1 F2 ne St Ln Up bud).ps := by
    rw [show n / 8192 * 8192 = n by omega]
    exact fit_told F n
  have hchk : chkT (txTl n F l0 l1 l2 F0 F1 F2 ne St Ln Up bud) (n / 8192) bud = (0, 0) := by
    unfold chkT
    rw [show n / 8192 * 8192 = n by omega]
    have e : chkS n (txTl n F l0 l1 l2 F0 F1 F2 ne St Ln Up bud).f0.length (txTl n F l0 l1 l2 F0 F1 F2 ne St Ln Up bud).f1.length (txTl n F l0 l1 l2 F0 F1 F2 ne St Ln Up bud).f2.length (txTl n F l0 l1 l2 F0 F1 F2 ne St Ln Up bud).ed.length (edSt (txTl n F l0 l1 l2 F0 F1 F2 ne St Ln Up bud).ed) (edLn (txTl n F l0 l1 l2 F0 F1 F2 ne St Ln Up bud).ed) (bud : Int) = chkS n l0 l1 l2 ne (edSt (txTl n F l0 l1 l2 F0 F1 F2 ne St Ln Up bud).ed) (edLn (txTl n F l0 l1 l2 F0 F1 F2 ne St Ln Up bud).ed) (bud : Int) := by
      unfold txTl
      simp only [List.length_map, List.length_range]
    rw [e, ← hc]
    refine chkS_congr fun j hj => ?_
    unfold edSt edLn txTl
    dsimp only
    rw [getD_told _ _ _ _ hj]
    exact ⟨rfl, rfl⟩
  unfold parW
  show (if fitP (n / 8192 * 8192) _ then _ else _) = _
  rw [if_pos hfit, hchk, if_neg (by simp)]
end Go.Proofs.YtdhdknjefjolpaaDoor
end
