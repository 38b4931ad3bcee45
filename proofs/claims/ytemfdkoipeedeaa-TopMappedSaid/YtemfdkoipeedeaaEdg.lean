/-
  Edges in memory; lines in plain words.
-/
import Derived.Test.YtemfdkoipeedeaaOnly
import Derived.Test.YtemfdkoipeedeaaRet
import Derived.Test.YtemfdkoipeedeaaOpenS
namespace Go.Proofs.Ytemfdkoipeedeaa
set_option linter.unusedSimpArgs false
set_option linter.unusedVariables false
set_option maxRecDepth 10000
open Go.RowKit

/-- A slice of edges, in blocks below B. -/
def EdgB (w : World) (a : Option Addr) (n : Nat) (St : Nat → Int) (Ln : Nat → Nat) (Up : Nat → Bool) (B : Nat) : Prop :=
  ∀ i, i < n → ∃ b off, a = some ⟨b, off, none⟩ ∧ b < B ∧ w.cell? ⟨b, off + i * 3, none⟩ = some (.int .i64 (St i)) ∧ w.cell? ⟨b, off + i * 3 + 1, none⟩ = some (.int .u8 (Ln i : Int)) ∧ w.cell? ⟨b, off + i * 3 + 2, none⟩ = some (.bool (Up i))
theorem EdgB.only {S : Nat → Prop} {w w' : World} {a : Option Addr} {n : Nat} {St : Nat → Int} {Ln : Nat → Nat} {Up : Nat → Bool} {B : Nat} (h : EdgB w a n St Ln Up B) (ho : Only S w w') (hs : ∀ j, j < B → ¬ S j) : EdgB w' a n St Ln Up B := fun i hi => by
  obtain ⟨b, off, ha, hlt, h0, h1, h2⟩ := h i hi
  have e := ho.block b (cell_lt h0) (hs b hlt)
  exact ⟨b, off, ha, hlt, (World.cell?_of_block e).trans h0, (World.cell?_of_block e).trans h1, (World.cell?_of_block e).trans h2⟩
theorem EdgB.mono {w : World} {a : Option Addr} {n : Nat} {St : Nat → Int} {Ln : Nat → Nat} {Up : Nat → Bool} {B B' : Nat} (h : EdgB w a n St Ln Up B) (hb : B ≤ B') : EdgB w a n St Ln Up B' := fun i hi => by
  obtain ⟨b, off, ha, hlt, r⟩ := h i hi
  exact ⟨b, off, ha, by omega, r⟩
theorem EdgB.below {w w' : World} {a : Option Addr} {n : Nat} {St : Nat → Int} {Ln : Nat → Nat} {Up : Nat → Bool} {B m : Nat} (h : EdgB w a n St Ln Up B) (hb : Below m w w') (hB : B ≤ m) : EdgB w' a n St Ln Up B := fun i hi => by
  obtain ⟨b, off, ha, hlt, h0, h1, h2⟩ := h i hi
  have e := hb.block b (by omega)
  exact ⟨b, off, ha, hlt, (World.cell?_of_block e).trans h0, (World.cell?_of_block e).trans h1, (World.cell?_of_block e).trans h2⟩
theorem EdgB.range {w : World} {n : Nat} {St : Nat → Int} {Ln : Nat → Nat} {Up : Nat → Bool} {a : Option Addr} {B : Nat} (h : EdgB w a n St Ln Up B) (h0 : 0 < n) : ∃ x, a = some x := by
  obtain ⟨b, off, e, _⟩ := h 0 h0
  exact ⟨_, e⟩

/-! ### in plain words -/
def limE : Int := 26388279066624
/-- What is wrong with edge i, the edges ahead of it being right. -/
def wrE (St : Nat → Int) (Ln : Nat → Nat) (i : Nat) : Nat := if 4 ≤ Ln i then 8 else if St i < (if i = 0 then 0 else St (i - 1)) ∨ limE < St i then 7 else 0
/-- The first wrong one of m edges from i on. -/
def chkE (St : Nat → Int) (Ln : Nat → Nat) : Nat → Nat → Nat × Nat
  | 0, _ => (0, 0)
  | m + 1, i => if wrE St Ln i ≠ 0 then (wrE St Ln i, i) else chkE St Ln m (i + 1)
def chkV (St : Nat → Int) (Ln : Nat → Nat) (n : Nat) : Nat × Nat := if 1000 < n then (2, 1000) else chkE St Ln n 0
theorem chkE_step {St : Nat → Int} {Ln : Nat → Nat} {n i : Nat} (h : i < n) (hw : wrE St Ln i = 0) : chkE St Ln (n - i) i = chkE St Ln (n - (i + 1)) (i + 1) := by
  obtain ⟨m, hm⟩ : ∃ m, n - i = m + 1 := ⟨n - i - 1, by omega⟩
  rw [hm, show n - (i + 1) = m from by omega]
  show (if wrE St Ln i ≠ 0 then _ else _) = _
  rw [if_neg (by omega)]
theorem chkE_bad {St : Nat → Int} {Ln : Nat → Nat} {n i : Nat} (h : i < n) (hw : wrE St Ln i ≠ 0) : chkE St Ln (n - i) i = (wrE St Ln i, i) := by
  obtain ⟨m, hm⟩ : ∃ m, n - i = m + 1 := ⟨n - i - 1, by omega⟩
  rw [hm]
  show (if wrE St Ln i ≠ 0 then _ else _) = _
  rw [if_pos hw]
theorem chkE_zero {St : Nat → Int} {Ln : Nat → Nat} : ∀ (m i : Nat), (chkE St Ln m i).1 = 0 → ∀ j, i ≤ j → j < i + m → wrE St Ln j = 0
  | 0, i, _, j, h1, h2 => by omega
  | m + 1, i, h, j, h1, h2 => by
    unfold chkE at h
    by_cases hw : wrE St Ln i = 0
    · rw [if_neg (by omega)] at h
      by_cases e : j = i
      · subst e; exact hw
      · exact chkE_zero m (i + 1) h j (by omega) (by omega)
    · rw [if_pos hw] at h
      exact absurd h hw
/-- How a line stands at a stamp: by m edges from i on. -/
def atE (St : Nat → Int) (Ln : Nat → Nat) (Up : Nat → Bool) (line : Nat) (stamp : Int) : Nat → Nat → Bool → Bool
  | 0, _, up => up
  | m + 1, i, up => if stamp < St i then up else atE St Ln Up line stamp m (i + 1) (if Ln i = line then Up i else up)
theorem atE_step {St : Nat → Int} {Ln : Nat → Nat} {Up : Nat → Bool} {line : Nat} {stamp : Int} {n i : Nat} {up : Bool} (h : i < n) : atE St Ln Up line stamp (n - i) i up = if stamp < St i then up else atE St Ln Up line stamp (n - (i + 1)) (i + 1) (if Ln i = line then Up i else up) := by
  obtain ⟨m, hm⟩ : ∃ m, n - i = m + 1 := ⟨n - i - 1, by omega⟩
  rw [hm, show n - (i + 1) = m from by omega]
  rfl
/-- How a line stands behind s edges. -/
def upE (Ln : Nat → Nat) (Up : Nat → Bool) (line : Nat) : Nat → Bool
  | 0 => false
  | s + 1 => if Ln s = line then Up s else upE Ln Up line s
/-- Did the line of NMI rise with edge s? -/
def rsE (Ln : Nat → Nat) (Up : Nat → Bool) (s : Nat) : Bool := decide (Ln s = 1) && Up s && !upE Ln Up 1 s
/-- m edges may go by, from s on, up to a stamp: how many went by, and what rose. -/
def toE (St : Nat → Int) (Ln : Nat → Nat) (Up : Nat → Bool) (stamp : Int) : Nat → Nat → Bool → Nat × Bool
  | 0, s, r => (s, r)
  | m + 1, s, r => if St s ≤ stamp then toE St Ln Up stamp m (s + 1) (r || rsE Ln Up s) else (s, r)
theorem toE_le {St : Nat → Int} {Ln : Nat → Nat} {Up : Nat → Bool} {stamp : Int} : ∀ (m s : Nat) (r : Bool), s ≤ (toE St Ln Up stamp m s r).1 ∧ (toE St Ln Up stamp m s r).1 ≤ s + m
  | 0, s, r => ⟨Nat.le_refl _, Nat.le_refl _⟩
  | m + 1, s, r => by
    unfold toE
    split
    · have := toE_le (St := St) (Ln := Ln) (Up := Up) (stamp := stamp) m (s + 1) (r || rsE Ln Up s)
      omega
    · exact ⟨Nat.le_refl _, by omega⟩
theorem toE_step {St : Nat → Int} {Ln : Nat → Nat} {Up : Nat → Bool} {stamp : Int} {n s : Nat} {r : Bool} (h : s < n) (hs : St s ≤ stamp) : toE St Ln Up stamp (n - s) s r = toE St Ln Up stamp (n - (s + 1)) (s + 1) (r || rsE Ln Up s) := by
  obtain ⟨m, hm⟩ : ∃ m, n - s = m + 1 := ⟨n - s - 1, by omega⟩
  rw [hm, show n - (s + 1) = m from by omega]
  show (if St s ≤ stamp then _ else _) = _
  rw [if_pos hs]
theorem toE_stop {St : Nat → Int} {Ln : Nat → Nat} {Up : Nat → Bool} {stamp : Int} {n s : Nat} {r : Bool} (h : s < n) (hs : stamp < St s) : toE St Ln Up stamp (n - s) s r = (s, r) := by
  obtain ⟨m, hm⟩ : ∃ m, n - s = m + 1 := ⟨n - s - 1, by omega⟩
  rw [hm]
  show (if St s ≤ stamp then _ else _) = _
  rw [if_neg (by omega)]
theorem toE_end {St : Nat → Int} {Ln : Nat → Nat} {Up : Nat → Bool} {stamp : Int} {n : Nat} {r : Bool} : toE St Ln Up stamp (n - n) n r = (n, r) := by rw [Nat.sub_self]; rfl
section
open Go.ChangeShapes Go.WideShapes Go.ChangeAt
variable {H : Type} {enc : TypeId × Value → H} {W : World} {base : Nat}
theorem open_edges {v : Value} {d : DataW H} {p : List MemPlace} (hv : Value.okWide Try.prog W .any base 52 v) (hd : DataW.Trod enc Try.prog W 0 (fun _ => true) true 52 v d p) :
    ∃ (a : Option Addr) (len cap : Nat) (St : Nat → Int) (Ln : Nat → Nat) (Up : Nat → Bool), v = .slice a len cap ∧ EdgB W a len St Ln Up W.heap.size ∧ len ≤ maxLen ∧ (∀ i, i < len → -9223372036854775808 ≤ St i ∧ St i ≤ 9223372036854775807 ∧ Ln i < 256) := by
  obtain ⟨a, len, cap, C, rfl, hr, hl, hm, hf⟩ := open_rows Try.underlying52 Try.underlying95 (by kernel_rfl) (by kernel_rfl) (by decide) hv hd
  have key : ∀ i, i < len → (∃ s : Int, C i 0 = .int .i64 s ∧ -9223372036854775808 ≤ s ∧ s ≤ 9223372036854775807) ∧ (∃ y : Nat, C i 1 = .int .u8 (y : Int) ∧ y < 256) ∧ (∃ u : Bool, C i 2 = .bool u) := fun i hi => by
    obtain ⟨_, _, h0⟩ := hf i hi 0 _ rfl
    obtain ⟨_, _, h1⟩ := hf i hi 1 _ rfl
    obtain ⟨_, _, h2⟩ := hf i hi 2 _ rfl
    exact ⟨field_i64 Try.underlying2 h0, field_u8 Try.underlying5 h1, field_bool Try.underlying4 h2⟩
  refine ⟨a, len, cap, fun i => cellInt (C i 0), fun i => cellNat (C i 1), fun i => cellBool (C i 2), rfl, fun i hi => ?_, Nat.le_trans hl hm, fun i hi => ?_⟩
  · obtain ⟨b, off, rfl, hlt, hc⟩ := hr i hi
    obtain ⟨⟨s, hs, _⟩, ⟨y, hy, _⟩, ⟨u, hu⟩⟩ := key i hi
    have c0 := hc 0 (by decide)
    have c1 := hc 1 (by decide)
    have c2 := hc 2 (by decide)
    rw [hs] at c0
    rw [hy] at c1
    rw [hu] at c2
    refine ⟨b, off, rfl, hlt, ?_, ?_, ?_⟩
    · simp only [hs, cellInt]; exact c0
    · simp only [hy, cellNat_int]; rw [Nat.add_assoc]; exact c1
    · simp only [hu, cellBool]; rw [Nat.add_assoc]; exact c2
  · obtain ⟨⟨s, hs, s1, s2⟩, ⟨y, hy, y1⟩, _⟩ := key i hi
    simp only [hs, hy, cellInt, cellNat_int]
    exact ⟨s1, s2, y1⟩
end
end Go.Proofs.Ytemfdkoipeedeaa
