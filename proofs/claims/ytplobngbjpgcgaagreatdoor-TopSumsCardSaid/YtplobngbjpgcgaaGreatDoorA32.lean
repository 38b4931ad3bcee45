/-
  The texts Co10, Rsame, Cart1, Cart2 of the proof of TopSums, as one file (they are merged by a program).
-/
import Derived.Test.YtplobngbjpgcgaaGreatDoorA31
import Derived.Test.YtplobngbjpgcgaaGreatDoorA2
import Derived.Test.YtplobngbjpgcgaaGreatDoorA3
import Derived.Test.YtplobngbjpgcgaaGreatDoorA16
import Derived.Laws.CopyOwn
import Derived.WalkMore
import Derived.Deep.RegionLaw
import Derived.Deep.DeepCutAuto
section
/-
  A core: a step as one; New, State.
-/
namespace Go.Proofs.YtplobngbjpgcgaaGreatDoor
set_option linter.unusedSimpArgs false
set_option linter.unusedVariables false
set_option maxRecDepth 10000
open Go.RowKit Pl
theorem nxt_24 {s : St} (h : s.M s.pc = 24) : nxt s = ⟨s.a, fset s.p 1 false, s.pc + 1, s.M⟩ := by unfold nxt; simp only [h]; rfl
theorem nxt_216 {s : St} (h : s.M s.pc = 216) : nxt s = ⟨s.a, fset s.p 8 false, s.pc + 1, s.M⟩ := by unfold nxt; simp only [h]; rfl
theorem nxt_248 {s : St} (h : s.M s.pc = 248) : nxt s = ⟨s.a, fset s.p 8 true, s.pc + 1, s.M⟩ := by unfold nxt; simp only [h]; rfl
theorem nxt_165 {s : St} (h : s.M s.pc = 165) : nxt s = ⟨s.M (s.M (s.pc + 1)), fres s.p (s.M (s.M (s.pc + 1))), s.pc + 2, s.M⟩ := by unfold nxt; simp only [h]; rfl
theorem nxt_101 {s : St} (h : s.M s.pc = 101) : nxt s = ⟨addR s.a (s.M (s.M (s.pc + 1))) s.p, addP s.a (s.M (s.M (s.pc + 1))) s.p, s.pc + 2, s.M⟩ := by unfold nxt; simp only [h]; rfl
theorem nxt_133 {s : St} (h : s.M s.pc = 133) : nxt s = ⟨s.a, s.p, s.pc + 2, upM s.M (s.M (s.pc + 1)) s.a⟩ := by unfold nxt; simp only [h]; rfl
theorem coStep_calls (D : DevA) (A : BusA) (base c n nr : Nat) (Mx : Int) (s : St) (w : World) (hk : Okk s) (hn : n ≤ 680) (hr : nr < 100000) (hL : w.cell? ⟨0, 0, none⟩ = some (.int .i64 Mx)) (hLD : 0 < D.l) (hS : Sys w D A base c s.a s.p s.pc n nr s.M) :
    Calls Tryz.prog 6 #[.pointer (some ⟨c, 0, none⟩)] w fun e w' => (∃ v, e = .returned v) ∧ (∃ n' nr', n' ≤ n + 5 ∧ nr' ≤ nr + 1 ∧ Sys w' D A base c (nxt s).a (nxt s).p (nxt s).pc n' nr' (nxt s).M) ∧ KeepC D base c w w' := by
  have h1 := hk.pc
  rcases hk.o with h | h | h | h | h | h
  · rw [nxt_24 h]
    exact (stepImp D A base c s.a s.p s.pc n nr 24 Mx s.M w (by omega) hn hk.p hk.t (by omega) h hL hLD hS).mono fun e w' q => ⟨q.1, by obtain ⟨n', hn', x⟩ := q.2.1; exact ⟨n', nr, by omega, by omega, x⟩, q.2.2⟩
  · rw [nxt_216 h]
    exact (stepImp D A base c s.a s.p s.pc n nr 216 Mx s.M w (by omega) hn hk.p hk.t (by omega) h hL hLD hS).mono fun e w' q => ⟨q.1, by obtain ⟨n', hn', x⟩ := q.2.1; exact ⟨n', nr, by omega, by omega, x⟩, q.2.2⟩
  · rw [nxt_248 h]
    exact (stepImp D A base c s.a s.p s.pc n nr 248 Mx s.M w (by omega) hn hk.p hk.t (by omega) h hL hLD hS).mono fun e w' q => ⟨q.1, by obtain ⟨n', hn', x⟩ := q.2.1; exact ⟨n', nr, by omega, by omega, x⟩, q.2.2⟩
  · rw [nxt_165 h]
    exact (stepLda D A base c s.a s.p s.pc n nr _ Mx s.M w (by omega) hn hk.p hk.t h rfl (hk.M _) (hk.M _) hL hLD hS).mono fun e w' q => ⟨q.1, by obtain ⟨n', hn', x⟩ := q.2.1; exact ⟨n', nr, by omega, by omega, x⟩, q.2.2⟩
  · rw [nxt_101 h]
    exact (stepAdc D A base c s.a s.p s.pc n nr _ Mx s.M w (by omega) hn hk.a hk.p hk.t h rfl (hk.M _) (hk.M _) hL hLD hS).mono fun e w' q => ⟨q.1, by obtain ⟨n', hn', x⟩ := q.2.1; exact ⟨n', nr, by omega, by omega, x⟩, q.2.2⟩
  · rw [nxt_133 h]
    exact (stepSta D A base c s.a s.p s.pc n nr _ Mx s.M w (by omega) hn hk.p hk.t h rfl (hk.M _) hr hL hLD hS).mono fun e w' q => ⟨q.1, by obtain ⟨n', hn', x⟩ := q.2.1; exact ⟨n', nr + 1, by omega, by omega, x⟩, q.2.2⟩
set_option maxRecDepth 100000 in
set_option maxHeartbeats 4000000 in
theorem isaNew_calls (D : DevA) (A : BusA) (base nr k h a p pc : Nat) (now cyc left np : Int) (F : Nat → Int) (V : Value) (w : World) (hB : BusW w D A base now cyc left np nr k h F V) :
    Calls Tryz.prog 15 #[.agg #[.int .u8 (a : Int), .int .u8 0, .int .u8 0, .int .u8 0, .int .u8 (p : Int), .int .u16 (pc : Int), .int .u8 248, .int .u8 248, .int .u8 248, .int .u8 248, .int .u8 248, .int .u8 248, .int .u8 248, .int .u8 248, .int .u8 0, .bool false], .pointer (some ⟨A.b, 0, none⟩)] w fun e w' => ∃ c, e = .returned (.pointer (some ⟨c, 0, none⟩)) ∧ Blk w' c 59 (coV a p pc A.b) ∧ w.heap.size ≤ c ∧ Below w.heap.size w w' := by
  have hb : Blk (w.alloc (.cells #[.int .u8 (a : Int), .int .u8 0, .int .u8 0, .int .u8 0, .int .u8 (p : Int), .int .u16 (pc : Int), .int .u8 248, .int .u8 248, .int .u8 248, .int .u8 248, .int .u8 248, .int .u8 248, .int .u8 248, .int .u8 248, .int .u8 0, .bool false] 32)) w.heap.size 32 #[.int .u8 (a : Int), .int .u8 0, .int .u8 0, .int .u8 0, .int .u8 (p : Int), .int .u16 (pc : Int), .int .u8 248, .int .u8 248, .int .u8 248, .int .u8 248, .int .u8 248, .int .u8 248, .int .u8 248, .int .u8 248, .int .u8 0, .bool false] := Blk.new _ _ _
  have hba : Below w.heap.size w (w.alloc (.cells #[.int .u8 (a : Int), .int .u8 0, .int .u8 0, .int .u8 0, .int .u8 (p : Int), .int .u16 (pc : Int), .int .u8 248, .int .u8 248, .int .u8 248, .int .u8 248, .int .u8 248, .int .u8 248, .int .u8 248, .int .u8 248, .int .u8 0, .bool false] 32)) := Bl.alloc (Below.refl _ _) _
  have hf := bsFast_calls _ (hB.low hba)
  have c15 : (w.alloc (.cells #[.int .u8 (a : Int), .int .u8 0, .int .u8 0, .int .u8 0, .int .u8 (p : Int), .int .u16 (pc : Int), .int .u8 248, .int .u8 248, .int .u8 248, .int .u8 248, .int .u8 248, .int .u8 248, .int .u8 248, .int .u8 248, .int .u8 0, .bool false] 32)).cell? ⟨w.heap.size, 15, none⟩ = some (.bool false) := Blk.cell hb 15
  have f15 : (w.alloc (.cells #[.int .u8 (a : Int), .int .u8 0, .int .u8 0, .int .u8 0, .int .u8 (p : Int), .int .u16 (pc : Int), .int .u8 248, .int .u8 248, .int .u8 248, .int .u8 248, .int .u8 248, .int .u8 248, .int .u8 248, .int .u8 248, .int .u8 0, .bool false] 32)).frozen? ⟨w.heap.size, 15, none⟩ = false := Blk.frozen hb 15
  clear hB hba
  go_enter Tryz.func15, Tryz.ntmps15
  go_wp2_with fail
  refine Cl.p hf ?_
  clear hf
  go_wp2_with (refine wpList_load_row rfl 32 _ rfl w.heap.size rfl _ #[.int .u8 (a : Int), .int .u8 0, .int .u8 0, .int .u8 0, .int .u8 (p : Int), .int .u16 (pc : Int), .int .u8 248, .int .u8 248, .int .u8 248, .int .u8 248, .int .u8 248, .int .u8 248, .int .u8 248, .int .u8 248, .int .u8 0, .bool false] (0, 0) _ hb Tryz.underlying32 rfl (by kernel_rfl) ?_)
  go_ret
  exact ⟨w.heap.size + 1, rfl, by unfold coV; exact Blk.newAt (by simp), by omega, Bl.alloc (Bl.alloc (Below.refl _ _) _) _⟩
theorem coState_calls (D : DevA) (A : BusA) (base c a p pc n nr : Nat) (M : Nat → Nat) (w : World) (hS : Sys w D A base c a p pc n nr M) :
    Calls Tryz.prog 10 #[.pointer (some ⟨c, 0, none⟩)] w fun e w' => e = .returned (.agg #[.int .u8 (a : Int), .int .u8 0, .int .u8 0, .int .u8 0, .int .u8 (p : Int), .int .u16 (pc : Int), .int .u8 248, .int .u8 248, .int .u8 248, .int .u8 248, .int .u8 248, .int .u8 248, .int .u8 248, .int .u8 248, .int .u8 0, .bool false]) ∧ Below w.heap.size w w' := by
  have hz : Blk (w.alloc (.cells #[.int .u8 0, .int .u8 0, .int .u8 0, .int .u8 0, .int .u8 0, .int .u16 0, .int .u8 0, .int .u8 0, .int .u8 0, .int .u8 0, .int .u8 0, .int .u8 0, .int .u8 0, .int .u8 0, .int .u8 0, .bool false] 32)) w.heap.size 32 #[.int .u8 0, .int .u8 0, .int .u8 0, .int .u8 0, .int .u8 0, .int .u16 0, .int .u8 0, .int .u8 0, .int .u8 0, .int .u8 0, .int .u8 0, .int .u8 0, .int .u8 0, .int .u8 0, .int .u8 0, .bool false] := Blk.new _ _ _
  have hmd := stRange (Blk.alloc hS.C (.cells #[.int .u8 0, .int .u8 0, .int .u8 0, .int .u8 0, .int .u8 0, .int .u16 0, .int .u8 0, .int .u8 0, .int .u8 0, .int .u8 0, .int .u8 0, .int .u8 0, .int .u8 0, .int .u8 0, .int .u8 0, .bool false] 32))
  clear hS
  go_enter Tryz.func10, Tryz.ntmps10
  go_wp2_with (first | (refine wpList_load_mid rfl 32 _ rfl c 0 rfl [Value.int .u8 (a : Int), Value.int .u8 0, Value.int .u8 0, Value.int .u8 0, Value.int .u8 (p : Int), Value.int .u16 (pc : Int), Value.int .u8 248, Value.int .u8 248, Value.int .u8 248, Value.int .u8 248, Value.int .u8 248, Value.int .u8 248, Value.int .u8 248, Value.int .u8 248, Value.int .u8 0, Value.bool false] _ hmd.1 Tryz.underlying32 rfl (by kernel_rfl) ?_) | (refine wpList_store_row rfl 32 _ _ rfl w.heap.size #[.int .u8 (a : Int), .int .u8 0, .int .u8 0, .int .u8 0, .int .u8 (p : Int), .int .u16 (pc : Int), .int .u8 248, .int .u8 248, .int .u8 248, .int .u8 248, .int .u8 248, .int .u8 248, .int .u8 248, .int .u8 248, .int .u8 0, .bool false] rfl rfl 32 _ hz (by kernel_rfl) rfl (by kernel_rfl) ?_; rw [setRow_new]))
  exact bodyPost_ret (results_cell_row rfl _ _ w.heap.size 32 #[.int .u8 (a : Int), .int .u8 0, .int .u8 0, .int .u8 0, .int .u8 (p : Int), .int .u16 (pc : Int), .int .u8 248, .int .u8 248, .int .u8 248, .int .u8 248, .int .u8 248, .int .u8 248, .int .u8 248, .int .u8 248, .int .u8 0, .bool false] (0, 0) _ rfl (Blk.new _ _ _) Tryz.underlying32 rfl (by kernel_rfl)) rfl ⟨rfl, Bl.alloc (Below.refl _ _) _⟩
end Go.Proofs.YtplobngbjpgcgaaGreatDoor
end
section
/-
  gannetref01.Same.
-/
namespace Go.Proofs.YtplobngbjpgcgaaGreatDoor
set_option linter.unusedSimpArgs false
set_option linter.unusedVariables false
set_option maxRecDepth 10000
open Go.RowKit

end Go.Proofs.YtplobngbjpgcgaaGreatDoor
end
section
/-
  Bytes in a row, pieces in memory; cart: lay, Check; gannetlaw04: small; gannetref04: Check.
-/
namespace Go.Proofs.YtplobngbjpgcgaaGreatDoor
set_option linter.unusedSimpArgs false
set_option linter.unusedVariables false
set_option maxRecDepth 10000
open Go.RowKit

def rowN (N : Nat) (F : Nat → Int) : Array Value := arr N (fun i => .int .u8 (F i))
theorem rowN_congr {N : Nat} {F G : Nat → Int} (h : ∀ i, i < N → F i = G i) : rowN N F = rowN N G := arr_congr fun i hi => by rw [h i hi]
/-- Bytes in a block of their own. -/
def RW (w : World) (g N : Nat) (F : Nat → Int) : Prop := Blk w g 5 (rowN N F)
theorem RW.cell {w : World} {g N : Nat} {F : Nat → Int} (h : RW w g N F) (i : Nat) (hi : i < N) : w.cell? ⟨g, i, none⟩ = some (.int .u8 (F i)) := (Blk.cell h i).trans (arr_get N _ i hi)
theorem RW.set {w : World} {g N : Nat} {F : Nat → Int} (h : RW w g N F) (i : Nat) (hi : i < N) (v : Int) : RW (w.setCell ⟨g, i, none⟩ (.int .u8 v)) g N (fun j => if j = i then v else F j) := by
  have h1 := Blk.set_ h i (.int .u8 v)
  have e : (rowN N F).setIfInBounds i (.int .u8 v) = rowN N (fun j => if j = i then v else F j) := by
    unfold rowN
    rw [arr_set N _ i _ hi]
    refine arr_congr fun j _ => ?_
    unfold updv
    dsimp only
    by_cases hj : j = i
    · rw [if_pos hj, if_pos hj]
    · rw [if_neg hj, if_neg hj]
  rw [e] at h1
  exact h1
theorem RW.congr {w : World} {g N : Nat} {F G : Nat → Int} (h : RW w g N F) (e : ∀ i, i < N → F i = G i) : RW w g N G := by
  unfold RW at h ⊢
  rw [← rowN_congr e]
  exact h
/-- Bytes laid over others. -/
def layF (F : Nat → Int) (p n : Nat) (L : Nat → Int) : Nat → Int := fun i => if p ≤ i ∧ i < p + n then L (i - p) else F i
/-- Pieces, all in blocks below B. -/
def PieB (w : World) (a : Option Addr) (n : Nat) (At : Nat → Int) (O : Nat → Option Addr) (Ln Cp : Nat → Nat) (By : Nat → Nat → Int) (B : Nat) : Prop :=
  ∀ i, i < n → ∃ b off, a = some ⟨b, off, none⟩ ∧ b < B ∧ w.cell? ⟨b, off + i * 2, none⟩ = some (.int .i64 (At i)) ∧ w.cell? ⟨b, off + i * 2 + 1, none⟩ = some (.slice (O i) (Ln i) (Cp i)) ∧ NumsB w .u8 (O i) (Ln i) (By i) B
section
variable {w w' : World} {a : Option Addr} {n : Nat} {At : Nat → Int} {O : Nat → Option Addr} {Ln Cp : Nat → Nat} {By : Nat → Nat → Int} {B m : Nat}
theorem PieB.only {S : Nat → Prop} (h : PieB w a n At O Ln Cp By B) (ho : Only S w w') (hs : ∀ j, j < B → ¬ S j) : PieB w' a n At O Ln Cp By B := fun i hi => by
  obtain ⟨b, off, ha, hlt, h0, h1, h2⟩ := h i hi
  have e := ho.block b (cell_lt h0) (hs b hlt)
  exact ⟨b, off, ha, hlt, (World.cell?_of_block e).trans h0, (World.cell?_of_block e).trans h1, h2.only ho hs⟩
theorem NumsB.mono {k : IntKind} {L : Nat → Int} {B' : Nat} (h : NumsB w k a n L B) (hb : B ≤ B') : NumsB w k a n L B' := fun i hi => by
  obtain ⟨b, off, ha, hlt, r⟩ := h i hi
  exact ⟨b, off, ha, by omega, r⟩
theorem NumsB.below {k : IntKind} {L : Nat → Int} (h : NumsB w k a n L B) (hb : Below m w w') (hB : B ≤ m) : NumsB w' k a n L B := fun i hi => by
  obtain ⟨b, off, ha, hlt, h0⟩ := h i hi
  exact ⟨b, off, ha, hlt, (World.cell?_of_block (hb.block b (by omega))).trans h0⟩
theorem PieB.mono {B' : Nat} (h : PieB w a n At O Ln Cp By B) (hb : B ≤ B') : PieB w a n At O Ln Cp By B' := fun i hi => by
  obtain ⟨b, off, ha, hlt, h0, h1, h2⟩ := h i hi
  exact ⟨b, off, ha, by omega, h0, h1, h2.mono hb⟩
theorem PieB.below (h : PieB w a n At O Ln Cp By B) (hb : Below m w w') (hB : B ≤ m) : PieB w' a n At O Ln Cp By B := fun i hi => by
  obtain ⟨b, off, ha, hlt, h0, h1, h2⟩ := h i hi
  have e := hb.block b (by omega)
  exact ⟨b, off, ha, hlt, (World.cell?_of_block e).trans h0, (World.cell?_of_block e).trans h1, h2.below hb hB⟩
end
/-- Does a piece lie within? -/
def Fits (N : Nat) (p : Int) (n : Nat) : Prop := 0 ≤ p ∧ p + n ≤ N
end Go.Proofs.YtplobngbjpgcgaaGreatDoor
end
section
/-
  cart: Make; gannetref04: Make.
-/
namespace Go.Proofs.YtplobngbjpgcgaaGreatDoor
set_option linter.unusedSimpArgs false
set_option linter.unusedVariables false
set_option maxRecDepth 10000
open Go.RowKit

/-- The bytes behind k pieces. -/
def mkF (At : Nat → Int) (Ln : Nat → Nat) (By : Nat → Nat → Int) : Nat → Nat → Int
  | 0 => fun _ => 0
  | k + 1 => layF (mkF At Ln By k) (At k).toNat (Ln k) (By k)
theorem layF_step (F L : Nat → Int) (p k : Nat) : (fun q => if q = p + k then L k else layF F p k L q) = layF F p (k + 1) L := by
  funext q
  unfold layF
  by_cases h : q = p + k
  · rw [if_pos h, if_pos (by omega), show q - p = k from by omega]
  · rw [if_neg h]
    by_cases h2 : p ≤ q ∧ q < p + k
    · rw [if_pos h2, if_pos (by omega)]
    · rw [if_neg h2, if_neg (by omega)]
theorem layF_zero (F L : Nat → Int) (p : Nat) : layF F p 0 L = F := by
  funext q
  unfold layF
  rw [if_neg (by omega)]
end Go.Proofs.YtplobngbjpgcgaaGreatDoor
end
