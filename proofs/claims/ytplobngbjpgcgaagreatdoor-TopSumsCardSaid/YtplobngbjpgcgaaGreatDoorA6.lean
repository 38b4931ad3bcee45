/-
  The texts L07b, L07c, Rnd, Obit, Boct, Oct, Irq, Irq2, Irq3, Irq4, Make, Feed, Port, Port2, Port3 of the proof of TopSums, as one file (they are merged by a program).
-/
import Derived.Test.YtplobngbjpgcgaaGreatDoorA5
import Derived.OrdersIn
import Derived.OrdersHeld
import Derived.Deep.RegionHeld3
import Derived.RangeFuncCalls
import Derived.TacticsIn
import Derived.Test.YtplobngbjpgcgaaGreatDoorA1
import Derived.WalkKit
import Derived.WalkLawsBesides
import Derived.WalkSpells
import Derived.RangeFuncNested
import Derived.RangeFuncBound
import Derived.RangeFuncLeaves
import Derived.Shelf.Abstract
import Derived.Shelf.RegionOpen
import Derived.OwnWalkIn
import Derived.TacticsInMore
import Derived.LoopNIn
import Derived.LoopIn
import Derived.Test.YtplobngbjpgcgaaGreatDoorA2
import Derived.Laws.MakeOwn
import Derived.Lib.LazyBuf
section
/-
  gannetlaw07: play.
-/
namespace Go.Proofs.YtplobngbjpgcgaaGreatDoor
set_option linter.unusedSimpArgs false
set_option linter.unusedVariables false
set_option maxRecDepth 10000
open Go.RowKit

/-- Steps, in blocks below B. -/
def StpB (w : World) (a : Option Addr) (n : Nat) (T : Nat → Int) (K : Nat → Bool) (B : Nat) : Prop :=
  ∀ i, i < n → ∃ b off, a = some ⟨b, off, none⟩ ∧ b < B ∧ w.cell? ⟨b, off + i * 2, none⟩ = some (.int .i64 (T i)) ∧ w.cell? ⟨b, off + i * 2 + 1, none⟩ = some (.bool (K i))
theorem StpB.only {S : Nat → Prop} {w w' : World} {a : Option Addr} {n : Nat} {T : Nat → Int} {K : Nat → Bool} {B : Nat} (h : StpB w a n T K B) (ho : Only S w w') (hs : ∀ j, j < B → ¬ S j) : StpB w' a n T K B := fun i hi => by
  obtain ⟨b, off, ha, hlt, h0, h1⟩ := h i hi
  have e := ho.block b (cell_lt h0) (hs b hlt)
  exact ⟨b, off, ha, hlt, (World.cell?_of_block e).trans h0, (World.cell?_of_block e).trans h1⟩
theorem StpB.mono {w : World} {a : Option Addr} {n : Nat} {T : Nat → Int} {K : Nat → Bool} {B B' : Nat} (h : StpB w a n T K B) (hb : B ≤ B') : StpB w a n T K B' := fun i hi => by
  obtain ⟨b, off, ha, hlt, r⟩ := h i hi
  exact ⟨b, off, ha, by omega, r⟩
theorem only_drewN {S : Nat → Prop} {w w' : World} (h : Only S w w') (q : Nat) : Only S w (w'.drewN q) := ⟨h.os, h.tape, h.output, h.size, h.block⟩
theorem lnTo_n (g : Nat) (o : Option Addr) (n c s : Nat) (St : Nat → Int) (Ln : Nat → Nat) (Up : Nat → Bool) (r : Bool) (stamp : Int) (w : World) (hok : EdgOk n St Ln) (hs : s ≤ n) (hL : LB w g o n c s Ln Up r) (hE : EdgB w o n St Ln Up w.heap.size) (hne : 0 < n → ∀ x, o = some x → x.block ≠ g) :
    Calls Tryz.prog 202 #[.pointer (some ⟨g, 0, none⟩), .int .i64 stamp] w fun e w' => (∃ v, e = .returned v) ∧
      LB w' g o n c (toE St Ln Up stamp (n - s) s r).1 Ln Up (toE St Ln Up stamp (n - s) s r).2 ∧ Only (fun j => j = g) w w' := by
  by_cases hn : 0 < n
  · exact lnTo_calls g o n c s St Ln Up r stamp w hok hs hL hE (hne hn)
  · obtain rfl : n = 0 := by omega
    obtain rfl : s = 0 := by omega
    go_enter Tryz.func202, Tryz.ntmps202
    go_wp2_with fail
    go_loopw [4, 5] (fun _ _ wr => wr = w) (fun _ _ wr => 0)
    case atStart => rfl
    case round =>
      subst hrel
      go_wp2_with fail
      refine (lnNext_none g o 0 c 0 Ln Up r _ hL (Nat.le_refl _)).mono ?_
      rintro e w1 ⟨rfl, nq, rfl⟩
      go_wp2_with fail
      (try simp only [Exit.inBlock, Exit.then])
      refine bodyPost_ret (results_none rfl _ _ _) rfl ?_
      exact ⟨⟨_, rfl⟩, hL, only_drewN (Only.refl _ _) nq⟩
end Go.Proofs.YtplobngbjpgcgaaGreatDoor
end
section
/-
  gannetlaw07: LinesGo, LinesStand.
-/
namespace Go.Proofs.YtplobngbjpgcgaaGreatDoor
set_option linter.unusedSimpArgs false
set_option linter.unusedVariables false
set_option maxRecDepth 10000
open Go.RowKit

theorem toE_spec {St : Nat → Int} {Ln : Nat → Nat} {Up : Nat → Bool} {t : Int} : ∀ (m s : Nat) (r : Bool), (∀ i, s ≤ i → i < (toE St Ln Up t m s r).1 → St i ≤ t) ∧ ((toE St Ln Up t m s r).1 < s + m → t < St (toE St Ln Up t m s r).1)
  | 0, s, r => ⟨fun i h1 h2 => by have h2 : i < s := h2; omega, fun h => by have h : s < s + 0 := h; omega⟩
  | m + 1, s, r => by
    unfold toE
    by_cases h : St s ≤ t
    · rw [if_pos h]
      have ih := toE_spec (St := St) (Ln := Ln) (Up := Up) (t := t) m (s + 1) (r || rsE Ln Up s)
      refine ⟨fun i h1 h2 => ?_, fun hx => ih.2 (by omega)⟩
      by_cases e : i = s
      · rw [e]; exact h
      · exact ih.1 i (by omega) h2
    · rw [if_neg h]
      exact ⟨fun i h1 h2 => by have h2 : i < s := h2; omega, fun _ => by show t < St s; omega⟩
theorem atE_spec {St : Nat → Int} {Ln : Nat → Nat} {Up : Nat → Bool} {line : Nat} {t : Int} {s : Nat} : ∀ (m i : Nat), i ≤ s → s ≤ i + m → (∀ j, i ≤ j → j < s → St j ≤ t) → (s < i + m → t < St s) → atE St Ln Up line t m i (upE Ln Up line i) = upE Ln Up line s
  | 0, i, h1, h2, _, _ => by
    obtain rfl : i = s := by omega
    rfl
  | m + 1, i, h1, h2, h3, h4 => by
    show (if t < St i then upE Ln Up line i else atE St Ln Up line t m (i + 1) (if Ln i = line then Up i else upE Ln Up line i)) = _
    by_cases e : i = s
    · subst e
      rw [if_pos (h4 (by omega))]
    · have := h3 i (by omega) (by omega)
      rw [if_neg (by omega)]
      exact atE_spec m (i + 1) (by omega) (by omega) (fun j h5 h6 => h3 j (by omega) h6) (fun h5 => h4 (by omega))
/-- s edges are those up to t. -/
def Gone (n : Nat) (St : Nat → Int) (s : Nat) (t : Int) : Prop := (∀ i, i < s → St i ≤ t) ∧ (s < n → t < St s)
theorem Gone.at {n : Nat} {St : Nat → Int} {Ln : Nat → Nat} {Up : Nat → Bool} {line s : Nat} {t : Int} (h : Gone n St s t) (hs : s ≤ n) : atE St Ln Up line t n 0 false = upE Ln Up line s :=
  atE_spec n 0 (by omega) (by omega) (fun j _ h2 => h.1 j h2) (fun h5 => h.2 (by omega))
theorem Gone.to {n : Nat} {St : Nat → Int} {Ln : Nat → Nat} {Up : Nat → Bool} {s : Nat} {t u v : Int} {r : Bool} (h : Gone n St s t) (hs : s ≤ n) (hv : v = if t < u then u else t) : Gone n St (toE St Ln Up u (n - s) s r).1 v := by
  have hsp := toE_spec (St := St) (Ln := Ln) (Up := Up) (t := u) (n - s) s r
  have hle := toE_le (St := St) (Ln := Ln) (Up := Up) (stamp := u) (n - s) s r
  generalize (toE St Ln Up u (n - s) s r).1 = s' at *
  by_cases e : t < u
  · rw [if_pos e] at hv
    subst hv
    refine ⟨fun i hi => ?_, fun hx => hsp.2 (by omega)⟩
    by_cases e2 : i < s
    · have := h.1 i e2; omega
    · exact hsp.1 i (by omega) hi
  · rw [if_neg e] at hv
    subst hv
    have e3 : s' = s := by
      rcases Nat.eq_or_lt_of_le hle.1 with h3 | h3
      · exact h3.symm
      · have h4 := hsp.1 s (Nat.le_refl _) h3
        have h5 := h.2 (by omega)
        omega
    rw [e3]
    exact h
section
open Go.ChangeShapes Go.WideShapes Go.ChangeAt
variable {H : Type} {enc : TypeId × Value → H} {W : World} {base : Nat}
end
end Go.Proofs.YtplobngbjpgcgaaGreatDoor
end
section
/-
  A region that draws its order, in a round of a range over a function: out of the plain world's laws.
-/
namespace Go.Proofs.YtplobngbjpgcgaaGreatDoor
set_option linter.unusedSimpArgs false
set_option linter.unusedVariables false
set_option maxRecDepth 10000
open Go.RowKit

section
variable {P : Program} {ops : Array Oper} {Q : Exit → Act → World → Prop} {md : Region.Mode} {n lp : Nat}
end
end Go.Proofs.YtplobngbjpgcgaaGreatDoor
end
section
/-
  octet.mask, octet.Bit.
-/
namespace Go.Proofs.YtplobngbjpgcgaaGreatDoor
set_option linter.unusedSimpArgs false
set_option linter.unusedVariables false
set_option maxRecDepth 10000
open Go.RowKit Pl

theorem octMask_calls (n : Int) (w : World) :
    Calls Tryz.prog 11 #[.int .i64 n] w fun e w' => e = .returned (.int .u8 (msk n : Nat)) ∧ w = w' := by
  by_cases h1 : n < 0
  · go_enter Tryz.func11, Tryz.ntmps11
    go_wp2
    go_ret
    exact ⟨ret_int (by rw [msk_out n (by omega)]; rfl), rfl⟩
  · by_cases h2 : 8 ≤ n
    · go_enter Tryz.func11, Tryz.ntmps11
      go_wp2
      go_ret
      exact ⟨ret_int (by rw [msk_out n (by omega)]; rfl), rfl⟩
    · obtain ⟨m, rfl⟩ := Int.eq_ofNat_of_zero_le (show 0 ≤ n by omega)
      have hm : m ≤ 7 := by omega
      go_enter Tryz.func11, Tryz.ntmps11
      go_wp2
      go_ret
      refine ⟨ret_int ?_, rfl⟩
      rw [msk_nat m hm]
      exact pow_mod m hm

theorem octBit_calls (b : Nat) (n : Int) (w : World) (hb : b < 256) :
    Calls Tryz.prog 4 #[.int .u8 (b : Int), .int .i64 n] w fun e w' => e = .returned (.bool (tb b n)) ∧ w = w' := by
  have hm := msk_lt n
  go_enter Tryz.func4, Tryz.ntmps4
  go_wp2_with (go_at_call 11; refine (octMask_calls _ _).mono ?_; rintro e w' ⟨rfl, rfl⟩)
  go_ret
  exact ⟨ret_bool (by rw [u8_and_nat b _ hb hm, ← and_msk, natCast_bne]), rfl⟩
end Go.Proofs.YtplobngbjpgcgaaGreatDoor
end
section
/-
  Plain facts on turns, counts and digits of bytes.
-/
namespace Go.Proofs.YtplobngbjpgcgaaGreatDoor.Pl
set_option linter.unusedSimpArgs false
set_option linter.unusedVariables false
set_option maxRecDepth 10000

def sgn (b : Nat) : Int := if b < 128 then b else (b : Int) - 256
end Go.Proofs.YtplobngbjpgcgaaGreatDoor.Pl
end
section
/-
  Package octet: With, Lo, Hi, Word, Signed, Left, Right.
-/
namespace Go.Proofs.YtplobngbjpgcgaaGreatDoor
set_option linter.unusedSimpArgs false
set_option linter.unusedVariables false
set_option maxRecDepth 10000
open Go.RowKit Pl

end Go.Proofs.YtplobngbjpgcgaaGreatDoor
end
section
/-
  Package irq, but Choose and Status; kinds as an iterator.
-/
namespace Go.Proofs.YtplobngbjpgcgaaGreatDoor
set_option linter.unusedSimpArgs false
set_option linter.unusedVariables false
set_option maxRecDepth 10000
open Go.RowKit Go.Shelf Pl
attribute [local go_sem] Oper.semAt_some

/-- A controller. -/
def IB (w : World) (g d : Nat) (u : Bool) : Prop := Blk w g 155 #[.int .u8 (d : Int), .bool u]
theorem iqNew_calls (w : World) : Calls Tryz.prog 35 #[] w fun e w' => ∃ g, e = .returned (.pointer (some ⟨g, 0, none⟩)) ∧ IB w' g 0 false ∧ w.heap.size ≤ g ∧ Below w.heap.size w w' := by
  go_enter Tryz.func35, Tryz.ntmps35
  go_wp2_with fail
  go_ret
  exact ⟨_, rfl, Blk.new _ _ _, Nat.le_refl _, by (repeat (first | exact Below.refl _ _ | assumption | refine Below.drew ?_ | refine Bl.alloc ?_ _ | refine below_drewN ?_ _ | refine Bl.chain ?_ (by assumption) (Nat.le_refl _)))⟩
end Go.Proofs.YtplobngbjpgcgaaGreatDoor
end
section
/-
  irq: who asks; Disable and Due of a controller that may be none.
-/
namespace Go.Proofs.YtplobngbjpgcgaaGreatDoor
set_option linter.unusedSimpArgs false
set_option linter.unusedVariables false
set_option maxRecDepth 10000
open Go.RowKit Go.Shelf Pl
attribute [local go_sem] Oper.semAt_some

/-- A controller, or none. -/
def QV (w : World) (o : Option Addr) (d : Nat) (u : Bool) : Prop := (o = none ∧ d = 0 ∧ u = false) ∨ ∃ g, o = some ⟨g, 0, none⟩ ∧ IB w g d u
theorem QV.below {w w' : World} {o : Option Addr} {d : Nat} {u : Bool} {m : Nat} (h : QV w o d u) (hb : Below m w w') (hm : w.heap.size ≤ m) : QV w' o d u := by
  rcases h with h | ⟨g, e, h⟩
  · exact .inl h
  · exact .inr ⟨g, e, Blk.below h hb (Nat.lt_of_lt_of_le (Blk.lt h) hm)⟩
theorem QV.alloc {w : World} {o : Option Addr} {d : Nat} {u : Bool} (h : QV w o d u) (x : Obj) : QV (w.alloc x) o d u := by
  rcases h with h | ⟨g, e, h⟩
  · exact .inl h
  · exact .inr ⟨g, e, Blk.alloc h x⟩
theorem QV.drew {w : World} {o : Option Addr} {d : Nat} {u : Bool} (h : QV w o d u) : QV w.drew o d u := h
end Go.Proofs.YtplobngbjpgcgaaGreatDoor
end
section
/-
  irq.Status.
-/
namespace Go.Proofs.YtplobngbjpgcgaaGreatDoor
set_option linter.unusedSimpArgs false
set_option linter.unusedVariables false
set_option maxRecDepth 10000
open Go.RowKit Go.Shelf Pl
attribute [local go_sem] Oper.semAt_some

end Go.Proofs.YtplobngbjpgcgaaGreatDoor
end
section
/-
  irq.Choose.
-/
namespace Go.Proofs.YtplobngbjpgcgaaGreatDoor
set_option linter.unusedSimpArgs false
set_option linter.unusedVariables false
set_option maxRecDepth 10000
open Go.RowKit Go.Shelf Pl
attribute [local go_sem] Oper.semAt_some

end Go.Proofs.YtplobngbjpgcgaaGreatDoor
end
section
/-
  make of a slice whose elements are one cell each, as an array by place.
-/
namespace Go.Proofs.YtplobngbjpgcgaaGreatDoor
set_option linter.unusedSimpArgs false
set_option linter.unusedVariables false
set_option maxRecDepth 10000
open Go.RowKit Pl

section
variable {P : Program}
end
end Go.Proofs.YtplobngbjpgcgaaGreatDoor
end
section
/-
  Package feed, but Check; gannetref06.
-/
namespace Go.Proofs.YtplobngbjpgcgaaGreatDoor
set_option linter.unusedSimpArgs false
set_option linter.unusedVariables false
set_option maxRecDepth 10000
open Go.RowKit

theorem infoU8f : (Tryz.prog.info? 5).map (fun i => (i.zero, i.size, i.bytes)) = some (some (.int .u8 0), 1, 1) := by kernel_rfl
/-- The numbers of a slice, as a list. -/
def lst8 (L : Nat → Int) (n : Nat) : List Int := (List.range n).map L
theorem lst8_get (L : Nat → Int) (n i : Nat) (h : i < n) : (lst8 L n).getD i 0 = L i := by unfold lst8; simp [List.getD, h]

theorem slClone_calls (o : Option Addr) (n c : Nat) (L : Nat → Int) (w : World) (hn : n ≤ 140737488355328) (hL : NumsAt w .u8 o n L) :
    Calls Tryz.prog 39 #[.slice o n c] w fun e w' => ∃ o' c', e = .returned (.slice o' n c') ∧ NumsAt w' .u8 o' n L ∧ Below w.heap.size w w' := by
  obtain ⟨i0, hi, hz0, hz1, hz2⟩ := info_parts infoU8f
  have hnil := fun W a l c => run_eql_slice_nil W 24 5 a l c Tryz.underlying24
  have hnil2 := fun W a l c => run_equalIn_slice_nil W 9999 24 5 a l c Tryz.underlying24
  cases o with
  | none =>
    have hn0 : n = 0 := by
      rcases Nat.eq_zero_or_pos n with h | h
      · exact h
      · obtain ⟨_, _, h, _⟩ := hL 0 h; cases h
    subst hn0
    go_enter Tryz.func39, Tryz.ntmps39
    go_wp2_with fail
    go_ret
    exact ⟨_, _, rfl, fun i hi => by omega, by (repeat (first | exact Below.refl _ _ | assumption | refine Below.drew ?_ | refine Bl.alloc ?_ _ | refine below_drewN ?_ _ | refine Bl.chain ?_ (by assumption) (Nat.le_refl _)))⟩
  | some a =>
    have hown := World.ownsRow_lit w (base := w.heap.size) (e := 5) (size := 1) #[] 0 (Nat.le_refl _) (by decide) rfl
    go_enter Tryz.func39, Tryz.ntmps39
    go_wp2_with (at_builtin; refine wpList_append_own _ rfl _ _ 24 rfl w.heap.size 5 i0 (.int .u8 0) 1 1 Tryz.underlying24 hi hz0 hz1 hz2 rfl (by decide) _ _ _ rfl hown _ n c ((lst8 L n).map (Value.int .u8)) rfl ?c0 ?c1 ?c2 ?c3 ?c4 ?c5 ?_)
    case c0 => simp [lst8]
    case c1 =>
      intro j u hu
      have hj : j < n := by
        have := (List.getElem?_eq_some_iff.1 hu).1
        simpa [lst8] using this
      obtain ⟨b, off, ha, hlt, hc⟩ := hL j hj
      injection ha with ha
      subst ha
      have e : u = L j := by simpa [lst8, hj, eq_comm] using hu
      rw [add_plain, e]
      exact (World.cell?_alloc_lt w _ ⟨b, off + j, none⟩ hlt).trans hc
    case c2 =>
      intro u hu
      rfl
    case c3 => unfold maxLen; omega
    intro v1 w1 hown1 hgrow1 _
    obtain ⟨o', c', rfl, hn1⟩ := nums_of_own hown1
    go_wp2_with fail
    go_ret
    refine ⟨_, _, rfl, fun i hi => ?_, ?_⟩
    · have := hn1 i hi
      dsimp only at this ⊢
      rwa [lst8_get L n i hi] at this
    · exact (Bl.alloc (Below.refl _ _) _).grown hgrow1 (by simp) (fun k hk => (hown.lt k hk).1)

/-- A feed, as it lies. -/
def FB (w : World) (g : Nat) (o : Option Addr) (n c T : Nat) : Prop := Blk w g 159 #[.slice o n c, .int .i64 (T : Int)]
theorem fdNew_calls (o : Option Addr) (n c : Nat) (L : Nat → Int) (w : World) (hn : n ≤ 140737488355328) (hL : NumsAt w .u8 o n L) :
    Calls Tryz.prog 37 #[.slice o n c] w fun e w' => ∃ g o' c', e = .returned (.pointer (some ⟨g, 0, none⟩)) ∧ FB w' g o' n c' 0 ∧ NumsB w' .u8 o' n L g ∧ w.heap.size ≤ g ∧ Below w.heap.size w w' := by
  go_enter Tryz.func37, Tryz.ntmps37
  go_wp2_with fail
  refine (slClone_calls o n c L _ hn hL).mono ?_
  rintro e w1 ⟨o', c', rfl, hn1, hb1⟩
  go_wp2_with fail
  go_ret
  refine ⟨w1.heap.size, o', c', rfl, Blk.new _ _ _, ?_, hb1.size, by (repeat (first | exact Below.refl _ _ | assumption | refine Below.drew ?_ | refine Bl.alloc ?_ _ | refine below_drewN ?_ _ | refine Bl.chain ?_ (by assumption) (Nat.le_refl _)))⟩
  exact (hn1.toB (Nat.le_refl _)).only ((Only.refl (fun _ => False) w1).alloc _) (fun _ _ h => h)

/-! ### the document's -/
end Go.Proofs.YtplobngbjpgcgaaGreatDoor
end
section
/-
  Package port; gannetref10.
-/
namespace Go.Proofs.YtplobngbjpgcgaaGreatDoor
set_option linter.unusedSimpArgs false
set_option linter.unusedVariables false
set_option maxRecDepth 10000
open Go.RowKit

/-- A port: its feed's block gf. -/
def PB (w : World) (g gf s d : Nat) : Prop := Blk w g 157 #[.pointer (some ⟨gf, 0, none⟩), .int .u8 (s : Int), .int .i64 (d : Int)]
end Go.Proofs.YtplobngbjpgcgaaGreatDoor
end
section
/-
  Package port: low, high, Read; gannetref10: Write, Read.
-/
namespace Go.Proofs.YtplobngbjpgcgaaGreatDoor
set_option linter.unusedSimpArgs false
set_option linter.unusedVariables false
set_option maxRecDepth 10000
open Go.RowKit

end Go.Proofs.YtplobngbjpgcgaaGreatDoor
end
section
/-
  gannetref10: Write, New, Copy; port: New, Clone; nil receivers.
-/
namespace Go.Proofs.YtplobngbjpgcgaaGreatDoor
set_option linter.unusedSimpArgs false
set_option linter.unusedVariables false
set_option maxRecDepth 10000
open Go.RowKit

theorem ptNew_calls (o : Option Addr) (n c : Nat) (L : Nat → Int) (w : World) (hn : n ≤ 140737488355328) (hL : NumsAt w .u8 o n L) :
    Calls Tryz.prog 36 #[.slice o n c] w fun e w' => ∃ g gf o' c', e = .returned (.pointer (some ⟨g, 0, none⟩)) ∧ PB w' g gf 0 0 ∧ FB w' gf o' n c' 0 ∧ NumsB w' .u8 o' n L gf ∧ w.heap.size ≤ gf ∧ gf < g ∧ Below w.heap.size w w' := by
  go_enter Tryz.func36, Tryz.ntmps36
  go_wp2_with fail
  refine (fdNew_calls o n c L _ hn hL).mono ?_
  rintro e w1 ⟨gf, o', c', rfl, hF1, hN1, hg, hb1⟩
  go_wp2_with fail
  go_ret
  refine ⟨w1.heap.size, gf, o', c', rfl, Blk.new _ _ _, hF1.alloc _, ?_, hg, hF1.lt, by (repeat (first | exact Below.refl _ _ | assumption | refine Below.drew ?_ | refine Bl.alloc ?_ _ | refine below_drewN ?_ _ | refine Bl.chain ?_ (by assumption) (Nat.le_refl _)))⟩
  exact hN1.only ((Only.refl (fun _ => False) w1).alloc _) (fun _ _ h => h)
end Go.Proofs.YtplobngbjpgcgaaGreatDoor
end
