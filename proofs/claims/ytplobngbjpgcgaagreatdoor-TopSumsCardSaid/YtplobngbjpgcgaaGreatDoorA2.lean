/-
  The texts Only, Ret, OpenS, Edg of the proof of TopSums, as one file (they are merged by a program).
-/
import Derived.Test.YtplobngbjpgcgaaGreatDoorA1
import Derived.Deep.RegionLaw
import Derived.Deep.AppendLies
import Derived.OwnWalk
import Derived.Laws.OwnMore
import Derived.SizedLaws
import Derived.ChangeSlices
import Derived.Laws.Rows
import Derived.Deep.Slices
import Derived.Deep.Fields
import Derived.ChangeSame
section
/-
  Worlds that differ in some blocks alone; slices of numbers in lower blocks.
-/
namespace Go.Proofs.YtplobngbjpgcgaaGreatDoor
set_option linter.unusedSimpArgs false
set_option linter.unusedVariables false
set_option maxRecDepth 10000
open Go.RowKit

/-- All blocks but those of S stay as they are. -/
structure Only (S : Nat → Prop) (w w' : World) : Prop where
  os : w'.os = w.os
  tape : w'.tape = w.tape
  output : w'.output = w.output
  size : w.heap.size ≤ w'.heap.size
  block : ∀ k, k < w.heap.size → ¬ S k → w'.heap[k]? = w.heap[k]?
theorem Only.refl (S : Nat → Prop) (w : World) : Only S w w := ⟨rfl, rfl, rfl, Nat.le_refl _, fun _ _ _ => rfl⟩
theorem Only.trans {S : Nat → Prop} {a b c : World} (h : Only S a b) (k : Only S b c) : Only S a c :=
  ⟨k.os.trans h.os, k.tape.trans h.tape, k.output.trans h.output, Nat.le_trans h.size k.size, fun i hi hs => (k.block i (Nat.lt_of_lt_of_le hi h.size) hs).trans (h.block i hi hs)⟩
theorem Only.mono {S S' : Nat → Prop} {a b : World} (h : Only S a b) (hs : ∀ k, k < a.heap.size → S k → S' k) : Only S' a b := ⟨h.os, h.tape, h.output, h.size, fun k hk hn => h.block k hk fun e => hn (hs k hk e)⟩
theorem Only.of {S : Nat → Prop} {a b : World} (h : Below a.heap.size a b) : Only S a b := ⟨h.os, h.tape, h.output, h.size, fun k hk _ => h.block k hk⟩
theorem Only.below {S : Nat → Prop} {a b : World} {B : Nat} (h : Only S a b) (hB : B ≤ a.heap.size) (hs : ∀ k, S k → B ≤ k) : Below B a b :=
  ⟨h.os, h.tape, h.output, h.size, fun k hk => h.block k (by omega) fun e => by have := hs k e; omega⟩
theorem Only.setCell {S : Nat → Prop} {a b : World} (h : Only S a b) (p : Addr) (hp : S p.block) (u : Value) : Only S a (b.setCell p u) :=
  h.trans ⟨rfl, rfl, rfl, by simp [World.setCell], fun k _ hn => Below.heap_setCell _ _ _ _ (fun e => hn (e ▸ hp))⟩
theorem Only.drew {S : Nat → Prop} {a b : World} (h : Only S a b) : Only S a b.drew := ⟨h.os, h.tape, h.output, h.size, h.block⟩
theorem Only.alloc {S : Nat → Prop} {a b : World} (h : Only S a b) (o : Obj) : Only S a (b.alloc o) := h.trans (Only.of ((Below.refl _ _).alloc (Nat.le_refl _) o))
theorem Blk.only {S : Nat → Prop} {w w' : World} {g : Nat} {t : TypeId} {cs : Array Value} (h : Blk w g t cs) (ho : Only S w w') (hg : ¬ S g) : Blk w' g t cs := (ho.block g h.lt hg).trans h
theorem Blk.newAt {w : World} {t : TypeId} {cs : Array Value} {g : Nat} (h : g = w.heap.size) : Blk (w.alloc (.cells cs t)) g t cs := by
  subst h
  exact Blk.new _ _ _
/-- A slice of numbers that lies in a block below B. -/
def NumsB (w : World) (k : IntKind) (a : Option Addr) (len : Nat) (g : Nat → Int) (B : Nat) : Prop :=
  ∀ i, i < len → ∃ b off, a = some ⟨b, off, none⟩ ∧ b < B ∧ w.cell? ⟨b, off + i, none⟩ = some (.int k (g i))
theorem NumsAt.toB {w : World} {k : IntKind} {a : Option Addr} {len : Nat} {g : Nat → Int} {B : Nat} (h : NumsAt w k a len g) (hB : w.heap.size ≤ B) : NumsB w k a len g B := fun i hi => by
  obtain ⟨b, off, ha, hlt, hc⟩ := h i hi
  exact ⟨b, off, ha, Nat.lt_of_lt_of_le hlt hB, hc⟩
theorem NumsB.only {S : Nat → Prop} {w w' : World} {k : IntKind} {a : Option Addr} {len : Nat} {g : Nat → Int} {B : Nat} (h : NumsB w k a len g B) (ho : Only S w w') (hs : ∀ j, j < B → ¬ S j) : NumsB w' k a len g B := fun i hi => by
  obtain ⟨b, off, ha, hlt, hc⟩ := h i hi
  exact ⟨b, off, ha, hlt, (World.cell?_of_block (ho.block b (cell_lt hc) (hs b hlt))).trans hc⟩
theorem NumsB.cell {w : World} {k : IntKind} {a : Option Addr} {len : Nat} {g : Nat → Int} {B : Nat} (h : NumsB w k a len g B) (i : Nat) (hi : i < len) : ∃ b off, a = some ⟨b, off, none⟩ ∧ b < B ∧ w.cell? ⟨b, off + i, none⟩ = some (.int k (g i)) := h i hi

section
open Go.ChangeShapes Go.WideShapes Go.ChangeAt
variable {H : Type} {enc : TypeId × Value → H} {P : Program} {w : World} {base : Nat} {spare : Nat → Bool} {held : Bool}
end
end Go.Proofs.YtplobngbjpgcgaaGreatDoor
end
section
/-
  Results of which one lies in a cell.
-/
namespace Go.Proofs.YtplobngbjpgcgaaGreatDoor
set_option linter.unusedSimpArgs false
set_option linter.unusedVariables false
set_option maxRecDepth 10000
open Go.RowKit

section
variable {P : Program} {fn : Func} {s u v p : Tmp} {ty : TypeId} {tmps : Array Value} {w : World} {g : Nat} {t : TypeId} {cs : Array Value} {fr : Nat × Nat} {d : TypeDesc}
theorem results_tc (h : fn.results = #[.tmp u, .cell p ty]) (hp : tmps.getD p undef = .pointer (some ⟨g, 0, none⟩)) (hg : w.heap[g]? = some (.cells cs t fr))
    (hu : P.underlying ty = some d) (hd : (match d with | .struct _ | .array _ _ => true | _ => false) = true) (hi : (P.info? ty).map (·.size) = some cs.size) :
    (results fn tmps).run P w = .ok (.tuple #[tmps.getD u undef, .agg cs]) w := by
  have hp' : tmps[p]?.getD undef = .pointer (some ⟨g, 0, none⟩) := by simpa using hp
  simp [results, h, hp', asAddr, run_loadVar_row w g t ty cs fr d hg hu hd hi]
end
end Go.Proofs.YtplobngbjpgcgaaGreatDoor
end
section
/-
  Slices of structs opened to cells (after the guide's own page on structs, whose block this is).
-/
namespace Go.Proofs.YtplobngbjpgcgaaGreatDoor
set_option linter.unusedSimpArgs false
set_option linter.unusedVariables false
set_option maxRecDepth 10000
open Go.ChangeShapes Go.WideShapes Go.Deep Go.RowKit

section
variable {H : Type} {enc : TypeId × Value → H} {P : Program} {w : World} {base : Nat} {spare : Nat → Bool} {held : Bool}
end

section
variable {H : Type} {enc : TypeId × Value → H} {P : Program} {w : World} {base : Nat} {spare : Nat → Bool} {held : Bool} {r : Reach} {b0 : Nat} {t : TypeId} {v : Value} {d : DataW H} {ps : List MemPlace}

end

/-- A cell's number. -/
def cellNat : Value → Nat
  | .int _ n => n.toNat
  | _ => 0
@[simp] theorem cellNat_int (k : IntKind) (n : Nat) : cellNat (.int k (n : Int)) = n := by simp [cellNat]
def cellInt : Value → Int
  | .int _ n => n
  | _ => 0
end Go.Proofs.YtplobngbjpgcgaaGreatDoor
end
section
/-
  Edges in memory; lines in plain words.
-/
namespace Go.Proofs.YtplobngbjpgcgaaGreatDoor
set_option linter.unusedSimpArgs false
set_option linter.unusedVariables false
set_option maxRecDepth 10000
open Go.RowKit

/-- A slice of edges, in blocks below B. -/
def EdgB (w : World) (a : Option Addr) (n : Nat) (St : Nat → Int) (Ln : Nat → Nat) (Up : Nat → Bool) (B : Nat) : Prop :=
  ∀ i, i < n → ∃ b off, a = some ⟨b, off, none⟩ ∧ b < B ∧ w.cell? ⟨b, off + i * 3, none⟩ = some (.int .i64 (St i)) ∧ w.cell? ⟨b, off + i * 3 + 1, none⟩ = some (.int .u8 (Ln i : Int)) ∧ w.cell? ⟨b, off + i * 3 + 2, none⟩ = some (.bool (Up i))
theorem EdgB.only {S : Nat → Prop} {w w' : World} {a : Option Addr} {n : Nat} {St : Nat → Int} {Ln : Nat → Nat} {Up : Nat → Bool} {B : Nat} (h : EdgB w a n St Ln Up B) (ho : Only S w w') (hs : ∀ j, j < B → ¬ S j) : EdgB w' a n St Ln Up B := fun i hi => by
  obtain ⟨b, off, ha, hlt, h0, h1, h2⟩ := h i hi
  have e := ho.block b (cell_lt h0) (hs b hlt)
  exact ⟨b, off, ha, hlt, (World.cell?_of_block e).trans h0, (World.cell?_of_block e).trans h1, (World.cell?_of_block e).trans h2⟩
theorem EdgB.mono {w : World} {a : Option Addr} {n : Nat} {St : Nat → Int} {Ln : Nat → Nat} {Up : Nat → Bool} {B B' : Nat} (h : EdgB w a n St Ln Up B) (hb : B ≤ B') : EdgB w a n St Ln Up B' := fun i hi => by
  obtain ⟨b, off, ha, hlt, r⟩ := h i hi
  exact ⟨b, off, ha, by omega, r⟩
theorem EdgB.below {w w' : World} {a : Option Addr} {n : Nat} {St : Nat → Int} {Ln : Nat → Nat} {Up : Nat → Bool} {B m : Nat} (h : EdgB w a n St Ln Up B) (hb : Below m w w') (hB : B ≤ m) : EdgB w' a n St Ln Up B := fun i hi => by
  obtain ⟨b, off, ha, hlt, h0, h1, h2⟩ := h i hi
  have e := hb.block b (by omega)
  exact ⟨b, off, ha, hlt, (World.cell?_of_block e).trans h0, (World.cell?_of_block e).trans h1, (World.cell?_of_block e).trans h2⟩
theorem EdgB.range {w : World} {n : Nat} {St : Nat → Int} {Ln : Nat → Nat} {Up : Nat → Bool} {a : Option Addr} {B : Nat} (h : EdgB w a n St Ln Up B) (h0 : 0 < n) : ∃ x, a = some x := by
  obtain ⟨b, off, e, _⟩ := h 0 h0
  exact ⟨_, e⟩

/-! ### in plain words -/
def limE : Int := 26388279066624
/-- What is wrong with edge i, the edges ahead of it being right. -/
def wrE (St : Nat → Int) (Ln : Nat → Nat) (i : Nat) : Nat := if 4 ≤ Ln i then 8 else if St i < (if i = 0 then 0 else St (i - 1)) ∨ limE < St i then 7 else 0
/-- The first wrong one of m edges from i on. -/
def chkE (St : Nat → Int) (Ln : Nat → Nat) : Nat → Nat → Nat × Nat
  | 0, _ => (0, 0)
  | m + 1, i => if wrE St Ln i ≠ 0 then (wrE St Ln i, i) else chkE St Ln m (i + 1)
def chkV (St : Nat → Int) (Ln : Nat → Nat) (n : Nat) : Nat × Nat := if 1000 < n then (2, 1000) else chkE St Ln n 0
theorem chkE_step {St : Nat → Int} {Ln : Nat → Nat} {n i : Nat} (h : i < n) (hw : wrE St Ln i = 0) : chkE St Ln (n - i) i = chkE St Ln (n - (i + 1)) (i + 1) := by
  obtain ⟨m, hm⟩ : ∃ m, n - i = m + 1 := ⟨n - i - 1, by omega⟩
  rw [hm, show n - (i + 1) = m from by omega]
  show (if wrE St Ln i ≠ 0 then _ else _) = _
  rw [if_neg (by omega)]
theorem chkE_bad {St : Nat → Int} {Ln : Nat → Nat} {n i : Nat} (h : i < n) (hw : wrE St Ln i ≠ 0) : chkE St Ln (n - i) i = (wrE St Ln i, i) := by
  obtain ⟨m, hm⟩ : ∃ m, n - i = m + 1 := ⟨n - i - 1, by omega⟩
  rw [hm]
  show (if wrE St Ln i ≠ 0 then _ else _) = _
  rw [if_pos hw]
/-- How a line stands at a stamp: by m edges from i on. -/
def atE (St : Nat → Int) (Ln : Nat → Nat) (Up : Nat → Bool) (line : Nat) (stamp : Int) : Nat → Nat → Bool → Bool
  | 0, _, up => up
  | m + 1, i, up => if stamp < St i then up else atE St Ln Up line stamp m (i + 1) (if Ln i = line then Up i else up)
/-- How a line stands behind s edges. -/
def upE (Ln : Nat → Nat) (Up : Nat → Bool) (line : Nat) : Nat → Bool
  | 0 => false
  | s + 1 => if Ln s = line then Up s else upE Ln Up line s
/-- Did the line of NMI rise with edge s? -/
def rsE (Ln : Nat → Nat) (Up : Nat → Bool) (s : Nat) : Bool := decide (Ln s = 1) && Up s && !upE Ln Up 1 s
/-- m edges may go by, from s on, up to a stamp: how many went by, and what rose. -/
def toE (St : Nat → Int) (Ln : Nat → Nat) (Up : Nat → Bool) (stamp : Int) : Nat → Nat → Bool → Nat × Bool
  | 0, s, r => (s, r)
  | m + 1, s, r => if St s ≤ stamp then toE St Ln Up stamp m (s + 1) (r || rsE Ln Up s) else (s, r)
theorem toE_le {St : Nat → Int} {Ln : Nat → Nat} {Up : Nat → Bool} {stamp : Int} : ∀ (m s : Nat) (r : Bool), s ≤ (toE St Ln Up stamp m s r).1 ∧ (toE St Ln Up stamp m s r).1 ≤ s + m
  | 0, s, r => ⟨Nat.le_refl _, Nat.le_refl _⟩
  | m + 1, s, r => by
    unfold toE
    split
    · have := toE_le (St := St) (Ln := Ln) (Up := Up) (stamp := stamp) m (s + 1) (r || rsE Ln Up s)
      omega
    · exact ⟨Nat.le_refl _, by omega⟩
theorem toE_step {St : Nat → Int} {Ln : Nat → Nat} {Up : Nat → Bool} {stamp : Int} {n s : Nat} {r : Bool} (h : s < n) (hs : St s ≤ stamp) : toE St Ln Up stamp (n - s) s r = toE St Ln Up stamp (n - (s + 1)) (s + 1) (r || rsE Ln Up s) := by
  obtain ⟨m, hm⟩ : ∃ m, n - s = m + 1 := ⟨n - s - 1, by omega⟩
  rw [hm, show n - (s + 1) = m from by omega]
  show (if St s ≤ stamp then _ else _) = _
  rw [if_pos hs]
theorem toE_stop {St : Nat → Int} {Ln : Nat → Nat} {Up : Nat → Bool} {stamp : Int} {n s : Nat} {r : Bool} (h : s < n) (hs : stamp < St s) : toE St Ln Up stamp (n - s) s r = (s, r) := by
  obtain ⟨m, hm⟩ : ∃ m, n - s = m + 1 := ⟨n - s - 1, by omega⟩
  rw [hm]
  show (if St s ≤ stamp then _ else _) = _
  rw [if_neg (by omega)]
theorem toE_end {St : Nat → Int} {Ln : Nat → Nat} {Up : Nat → Bool} {stamp : Int} {n : Nat} {r : Bool} : toE St Ln Up stamp (n - n) n r = (n, r) := by rw [Nat.sub_self]; rfl
section
open Go.ChangeShapes Go.WideShapes Go.ChangeAt
variable {H : Type} {enc : TypeId × Value → H} {W : World} {base : Nat}
end
end Go.Proofs.YtplobngbjpgcgaaGreatDoor
end
