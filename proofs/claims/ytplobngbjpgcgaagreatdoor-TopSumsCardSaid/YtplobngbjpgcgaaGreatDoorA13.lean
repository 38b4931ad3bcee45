/-
  The texts Ram1 of the proof of TopSums, as one file (they are merged by a program).
-/
import Derived.Test.YtplobngbjpgcgaaGreatDoorA2
import Derived.Test.YtplobngbjpgcgaaGreatDoorA9
import Derived.Maps.OwnSet
import Derived.Maps.OwnOps
import Derived.WalkMore
section
/-
  Package ram: blocks of bytes in a map, as numbers; New, place, Read.
-/
namespace Go.Proofs.YtplobngbjpgcgaaGreatDoor
set_option linter.unusedSimpArgs false
set_option linter.unusedVariables false
set_option maxRecDepth 10000
open Go.RowKit Go.ChangeMaps Go.MapKept

def litI : Value → DataW Unit | .int k n => .lit (.int k n) | _ => .nil
/-- How a block reads. -/
def rbV : Value → Option (DataW Unit × List MemPlace) | .agg cs => some (.agg (cs.toList.map litI), []) | _ => none
def blkV (F : Nat → Int) (k : Nat) : Array Value := arr 64 fun i => .int .u8 (F (64 * k + i))
def dB (F : Nat → Int) (k : Nat) : DataW Unit := .agg ((List.range 64).map fun i => .lit (.int .u8 (F (64 * k + i))))
theorem litI_inv {v : Value} {k : IntKind} {n : Int} (h : litI v = .lit (.int k n)) : v = .int k n := by
  cases v <;> simp [litI] at h
  obtain ⟨rfl, rfl⟩ := h
  rfl
theorem rbV_blk (F : Nat → Int) (k : Nat) : rbV (.agg (blkV F k)) = some (dB F k, []) := by
  unfold rbV blkV dB arr
  simp [litI, Function.comp_def]
theorem rbV_inv {v : Value} {F : Nat → Int} {k : Nat} {ps : List MemPlace} (h : rbV v = some (dB F k, ps)) : v = .agg (blkV F k) := by
  cases v <;> simp [rbV] at h
  rename_i cs
  obtain ⟨h, _⟩ := h
  unfold dB at h
  have h : cs.toList.map litI = (List.range 64).map fun i => .lit (.int .u8 (F (64 * k + i))) := by
    injection h
  congr 1
  have e : cs.toList = (List.range 64).map fun i => .int .u8 (F (64 * k + i)) := by
    apply List.ext_getElem?
    intro i
    have h2 := congrArg (fun l : List (DataW Unit) => l[i]?) h
    simp only [List.getElem?_map] at h2 ⊢
    cases hc : cs.toList[i]? with
    | none =>
      rw [hc] at h2
      cases hr : (List.range 64)[i]? with
      | none => rfl
      | some j => rw [hr] at h2; cases h2
    | some u =>
      rw [hc] at h2
      cases hr : (List.range 64)[i]? with
      | none => rw [hr] at h2; cases h2
      | some j =>
        rw [hr] at h2
        simp only [Option.map_some, Option.some.injEq] at h2 ⊢
        exact litI_inv h2
  apply Array.ext'
  rw [e]
  rfl
/-- Is a block all 0? -/
def zb (F : Nat → Int) (k : Nat) : Bool := (List.range 64).all fun i => (F (64 * k + i)) == 0
theorem zb_iff {F : Nat → Int} {k : Nat} : zb F k = true ↔ ∀ i, i < 64 → F (64 * k + i) = 0 := by
  unfold zb
  rw [List.all_eq_true]
  constructor
  · intro h i hi
    have := h i (by simpa using hi)
    exact beq_iff_eq.1 this
  · intro h i hi
    exact beq_iff_eq.2 (h i (by simpa using hi))
theorem zb_congr {F G : Nat → Int} {k : Nat} (h : ∀ i, i < 64 → F (64 * k + i) = G (64 * k + i)) : zb F k = zb G k := by
  rw [Bool.eq_iff_iff, zb_iff, zb_iff]
  exact ⟨fun x i hi => (h i hi).symm.trans (x i hi), fun x i hi => (h i hi).trans (x i hi)⟩
/-- Block g is a map of blocks that holds the bytes F: those of its blocks that are not all 0. -/
def RamM (w : World) (g n : Nat) (F : Nat → Int) : Prop :=
  ∃ D : DataW Unit, w.ownsMap Tryz.prog 29 rbV g n D ∧ Maps.IsMap D ∧ ∀ k : Nat, k < 128 → ∀ z, D.atKey (.int .u16 (k : Int)) z = if zb F k = true then z else dB F k
theorem dB_zero {F : Nat → Int} {k : Nat} (h : ∀ i, i < 64 → F (64 * k + i) = 0) : dB F k = dB (fun _ => 0) k := by
  unfold dB
  congr 1
  exact List.map_congr_left fun i hi => by rw [h i (by simpa using hi)]
theorem keyU16 (k : Nat) (hk : k < 65536) : keyOf Tryz.prog 29 (.int .u16 (k : Int)) = some (.int .u16 (k : Int)) := Maps.keyOf_int_mk Tryz.underlying29 (by
  simp [Lit.wf, IntKind.min, IntKind.max, IntKind.signed, IntKind.bits]
  omega)
theorem isKeyU16 (k : Nat) : WideAt.IsKeyLit (.int .u16 (k : Int)) := trivial
theorem RamM.new (w : World) : RamM (w.alloc (.map #[] 0)) w.heap.size 0 (fun _ => 0) :=
  ⟨_, World.ownsMap_made w Tryz.prog 29 rbV, ⟨[], rfl⟩, fun k _ z => by rw [if_pos (zb_iff.2 fun _ _ => rfl)]; rfl⟩
theorem RamM.lt {w : World} {g n : Nat} {F : Nat → Int} (h : RamM w g n F) : g < w.heap.size := by
  obtain ⟨D, h, _⟩ := h
  exact h.lt
theorem RamM.only {S : Nat → Prop} {w w' : World} {g n : Nat} {F : Nat → Int} (h : RamM w g n F) (ho : Only S w w') (hg : ¬ S g) : RamM w' g n F := by
  obtain ⟨D, ⟨es, clock, hb, r⟩, h2⟩ := h
  exact ⟨D, ⟨es, clock, (ho.block g (Array.getElem?_eq_some_iff.1 hb).1 hg).trans hb, r⟩, h2⟩
theorem RamM.below {w w' : World} {g n B : Nat} {F : Nat → Int} (h : RamM w g n F) (hb : Below B w w') (hg : g < B) : RamM w' g n F := by
  obtain ⟨D, ⟨es, clock, hb', r⟩, h2⟩ := h
  exact ⟨D, ⟨es, clock, (hb.block g hg).trans hb', r⟩, h2⟩
theorem RamM.congr {w : World} {g n : Nat} {F G : Nat → Int} (h : RamM w g n F) (e : ∀ i, i < 8192 → F i = G i) : RamM w g n G := by
  obtain ⟨D, h1, h2, h3⟩ := h
  refine ⟨D, h1, h2, fun k hk z => ?_⟩
  rw [h3 k hk z]
  have e' : ∀ i, i < 64 → F (64 * k + i) = G (64 * k + i) := fun i hi => e _ (by omega)
  have ed : dB F k = dB G k := by
    unfold dB
    congr 1
    exact List.map_congr_left fun i hi => by rw [e' i (by simpa using hi)]
  rw [ed, zb_congr e']
theorem RamM.mono {w : World} {g n m : Nat} {F : Nat → Int} (h : RamM w g n F) (hn : n ≤ m) : RamM w g m F := by
  obtain ⟨D, h1, h2⟩ := h
  exact ⟨D, h1.mono hn, h2⟩
theorem zeroBlk (w : World) : (zeroValue 135).run Tryz.prog w = .ok (.agg (blkV (fun _ => 0) 0)) w := by kernel_rfl
/-- A block is got. -/
theorem RamM.look {w : World} {g n : Nat} {F : Nat → Int} (h : RamM w g n F) (k : Nat) (hk : k < 128) :
    (Instr.lookup 136 (.map (some g)) (.int .u16 (k : Int)) false).run Tryz.prog w = .ok (.agg (blkV F k)) w := by
  obtain ⟨D, h1, _, h3⟩ := h
  obtain ⟨v, ps, hrun, hv⟩ := h1.lookup (Maps.int_keyed Tryz.underlying29) Tryz.underlying136 (zeroBlk w) (rbV_blk (fun _ => 0) 0) (keyU16 k (by omega))
  rw [h3 k hk] at hv
  have e : (if zb F k = true then dB (fun _ => 0) 0 else dB F k) = dB F k := by
    split
    · rename_i h0
      rw [dB_zero (zb_iff.1 h0)]
      rfl
    · rfl
  rw [e] at hv
  rw [rbV_inv hv] at hrun
  exact hrun
def updF (F : Nat → Int) (p : Nat) (b : Int) : Nat → Int := fun j => if j = p then b else F j
theorem updF_in (F : Nat → Int) (k i : Nat) (b : Int) (hi : i < 64) : (blkV F k).setIfInBounds i (.int .u8 b) = blkV (updF F (64 * k + i) b) k := by
  unfold blkV
  rw [arr_set 64 _ i _ hi]
  refine arr_congr fun j _ => ?_
  unfold updv updF
  dsimp only
  by_cases h : j = i
  · subst h; rw [if_pos rfl, if_pos rfl]
  · rw [if_neg h, if_neg (by omega)]
theorem updF_out (F : Nat → Int) (k i : Nat) (b : Int) (k' : Nat) (hi : i < 64) (hk : k' ≠ k) (j : Nat) (hj : j < 64) : updF F (64 * k + i) b (64 * k' + j) = F (64 * k' + j) := by
  unfold updF
  rw [if_neg (by omega)]
theorem dB_congr {F G : Nat → Int} {k : Nat} (h : ∀ i, i < 64 → F (64 * k + i) = G (64 * k + i)) : dB F k = dB G k := by
  unfold dB
  congr 1
  exact List.map_congr_left fun i hi => by rw [h i (by simpa using hi)]
theorem key_ne {k k' : Nat} (h : k' ≠ k) : (Lit.int .u16 (k' : Int)) ≠ .int .u16 (k : Int) := fun e => by
  injection e with _ e
  omega
theorem RamM.other {D : DataW Unit} {F : Nat → Int} {k i : Nat} {b : Int} (hi : i < 64) (h3 : ∀ k : Nat, k < 128 → ∀ z, D.atKey (.int .u16 (k : Int)) z = if zb F k = true then z else dB F k) (k' : Nat) (hk' : k' < 128) (hne : k' ≠ k) (z : DataW Unit) :
    D.atKey (.int .u16 (k' : Int)) z = if zb (updF F (64 * k + i) b) k' = true then z else dB (updF F (64 * k + i) b) k' := by
  have e := updF_out F k i b k' hi hne
  rw [h3 k' hk' z, dB_congr e, zb_congr e]
/-- A block that has become all 0 goes. -/
theorem RamM.del {w : World} {g n : Nat} {F : Nat → Int} (h : RamM w g n F) (k i : Nat) (b : Int) (hk : k < 128) (hi : i < 64) (h0 : zb (updF F (64 * k + i) b) k = true) (ty : TypeId) :
    ∃ w', (Builtin.delete_ #[136, 29] ty #[.map (some g), .int .u16 (k : Int)]).run Tryz.prog w = .ok (.tuple #[]) w' ∧ RamM w' g n (updF F (64 * k + i) b) ∧ Only (fun x => x = g) w w' := by
  obtain ⟨D, h1, h2, h3⟩ := h
  obtain ⟨w', hrun, r1, es, clock, es', clock', hb, rfl⟩ := h1.drop (Maps.int_keyed Tryz.underlying29) Tryz.underlying136 (keyU16 k (by omega)) ty
  refine ⟨_, hrun, ⟨_, r1, ?_, fun k' hk' z => ?_⟩, ⟨rfl, rfl, rfl, by simp [setBlock], fun x hx hn => heap_setBlock_other hb _ (fun e => hn e)⟩⟩
  · obtain ⟨es, rfl⟩ := h2
    exact ⟨_, rfl⟩
  · by_cases e : k' = k
    · subst e
      rw [Maps.atKey_del_same, if_pos h0]
    · rw [Maps.atKey_del_other (key_ne e), RamM.other hi h3 k' hk' e z]
/-- A block is changed. -/
theorem RamM.put {w : World} {g n : Nat} {F : Nat → Int} (h : RamM w g n F) (k i : Nat) (b : Int) (hk : k < 128) (hi : i < 64) (hn : n < maxLen) (h0 : ¬ zb (updF F (64 * k + i) b) k = true) :
    ∃ w', (Instr.mapUpdate 136 (.map (some g)) (.int .u16 (k : Int)) (.agg (blkV (updF F (64 * k + i) b) k))).run Tryz.prog w = .ok () w' ∧ RamM w' g (n + 1) (updF F (64 * k + i) b) ∧ Only (fun x => x = g) w w' := by
  obtain ⟨D, h1, h2, h3⟩ := h
  obtain ⟨w', hrun, r1, es, clock, es', clock', hb, rfl⟩ := h1.store (Maps.int_keyed Tryz.underlying29) Tryz.underlying136 hn (keyU16 k (by omega)) (rbV_blk (updF F (64 * k + i) b) k)
  refine ⟨_, hrun, ⟨_, r1, ?_, fun k' hk' z => ?_⟩, ⟨rfl, rfl, rfl, by simp [setBlock], fun x hx hn => heap_setBlock_other hb _ (fun e => hn e)⟩⟩
  · obtain ⟨es, rfl⟩ := h2
    exact ⟨_, rfl⟩
  · by_cases e : k' = k
    · subst e
      rw [Maps.atKey_put_same h2 (isKeyU16 _), if_neg h0]
    · rw [Maps.atKey_put_other (key_ne e), RamM.other hi h3 k' hk' e z]
def zero64 : Array Value := #[.int .u8 0, .int .u8 0, .int .u8 0, .int .u8 0, .int .u8 0, .int .u8 0, .int .u8 0, .int .u8 0, .int .u8 0, .int .u8 0, .int .u8 0, .int .u8 0, .int .u8 0, .int .u8 0, .int .u8 0, .int .u8 0, .int .u8 0, .int .u8 0, .int .u8 0, .int .u8 0, .int .u8 0, .int .u8 0, .int .u8 0, .int .u8 0, .int .u8 0, .int .u8 0, .int .u8 0, .int .u8 0, .int .u8 0, .int .u8 0, .int .u8 0, .int .u8 0, .int .u8 0, .int .u8 0, .int .u8 0, .int .u8 0, .int .u8 0, .int .u8 0, .int .u8 0, .int .u8 0, .int .u8 0, .int .u8 0, .int .u8 0, .int .u8 0, .int .u8 0, .int .u8 0, .int .u8 0, .int .u8 0, .int .u8 0, .int .u8 0, .int .u8 0, .int .u8 0, .int .u8 0, .int .u8 0, .int .u8 0, .int .u8 0, .int .u8 0, .int .u8 0, .int .u8 0, .int .u8 0, .int .u8 0, .int .u8 0, .int .u8 0, .int .u8 0]
/-- Is a block all 0? -/
theorem run_eql_blk (F : Nat → Int) (k : Nat) (w : World) : (binOp .eql 135 (.agg (blkV F k)) (.agg zero64)).run Tryz.prog w = .ok (.bool (zb F k)) w :=
  run_eql_ints 135 5 64 .u8 Tryz.underlying135 Tryz.underlying5 (fun _ => by kernel_rfl) (fun i => F (64 * k + i)) (fun _ => 0) w
theorem wpList_delete_ram {ops : Array Oper} {rest : List Oper} {o : Oper} {a : Act} {Q : Exit → Act → World → Prop} {w : World} {g n : Nat} {F : Nat → Int} (hg : o.guard = none) (m x : Operand)
    (hop : o.op = Op.call { callee := Callee.builtin Builtin.delete, args := #[m, x], argTypes := #[136, 29] }) (k i : Nat) (b : Int) (hm : a.eval m = .map (some g)) (hx : a.eval x = .int .u16 (k : Int))
    (h : RamM w g n F) (hk : k < 128) (hi : i < 64) (h0 : zb (updF F (64 * k + i) b) k = true)
    (hK : ∀ w', RamM w' g n (updF F (64 * k + i) b) → Only (fun x => x = g) w w' → wpList Tryz.prog ops Q rest (a.put o.dst (.tuple #[])) w') : wpList Tryz.prog ops Q (o :: rest) a w := by
  refine wpList_plain hg fun K' hK' => ?_
  obtain ⟨w', hrun, r1, r2⟩ := h.del k i b hk hi h0 o.type
  unfold Oper.wp
  simp [execOp, hop, resolve, invoke, builtin, hm, hx, hrun, Result.andThen]
  exact hK' _ _ (hK w' r1 r2)
end Go.Proofs.YtplobngbjpgcgaaGreatDoor
end
