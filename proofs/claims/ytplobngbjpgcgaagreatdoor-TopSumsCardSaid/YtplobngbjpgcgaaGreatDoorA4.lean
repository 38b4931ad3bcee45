/-
  The texts Ln3 of the proof of TopSums, as one file (they are merged by a program).
-/
import Derived.Test.YtplobngbjpgcgaaGreatDoorA3
import Derived.Lib.LazyBuf
section
/-
  slices.Clone of edges; lines: New, Take, Rose, Seen, Next, Up, Clone.
-/
namespace Go.Proofs.YtplobngbjpgcgaaGreatDoor
set_option linter.unusedSimpArgs false
set_option linter.unusedVariables false
set_option maxRecDepth 10000
open Go.RowKit

theorem infoEdg : (Tryz.prog.info? 144).map (fun i => (i.zero, i.size, i.bytes)) = some (some (.agg #[.int .i64 0, .int .u8 0, .bool false]), 3, 16) := by kernel_rfl
/-- Cell j of edges in a row. -/
def celE (St : Nat → Int) (Ln : Nat → Nat) (Up : Nat → Bool) (j : Nat) : Value := if j % 3 = 0 then .int .i64 (St (j / 3)) else if j % 3 = 1 then .int .u8 (Ln (j / 3) : Int) else .bool (Up (j / 3))
theorem celE_0 (St : Nat → Int) (Ln : Nat → Nat) (Up : Nat → Bool) (i : Nat) : celE St Ln Up (i * 3) = .int .i64 (St i) := by
  unfold celE
  rw [if_pos (by omega), show i * 3 / 3 = i from by omega]
theorem celE_1 (St : Nat → Int) (Ln : Nat → Nat) (Up : Nat → Bool) (i : Nat) : celE St Ln Up (i * 3 + 1) = .int .u8 (Ln i : Int) := by
  unfold celE
  rw [if_neg (by omega), if_pos (by omega), show (i * 3 + 1) / 3 = i from by omega]
theorem celE_2 (St : Nat → Int) (Ln : Nat → Nat) (Up : Nat → Bool) (i : Nat) : celE St Ln Up (i * 3 + 2) = .bool (Up i) := by
  unfold celE
  rw [if_neg (by omega), if_neg (by omega), show (i * 3 + 2) / 3 = i from by omega]
theorem celE_one (St : Nat → Int) (Ln : Nat → Nat) (Up : Nat → Bool) (j : Nat) : (celE St Ln Up j).oneCell' = true := by
  unfold celE
  repeat (first | rfl | split)
def lstE (St : Nat → Int) (Ln : Nat → Nat) (Up : Nat → Bool) (n : Nat) : List Value := (List.range (n * 3)).map (celE St Ln Up)
/-- What the call owns, as edges. -/
theorem edg_of_own {w : World} {base n : Nat} {e : TypeId} {v : Value} {St : Nat → Int} {Ln : Nat → Nat} {Up : Nat → Bool} (h : w.ownsRow base e 3 v n (lstE St Ln Up n)) :
    ∃ a c, v = .slice a n c ∧ EdgB w a n St Ln Up w.heap.size ∧ ∀ x, a = some x → base ≤ x.block := by
  obtain ⟨hl, hv | ⟨g, cap, cur, rfl, hb, hh, hn, hcap, hsz, htake⟩⟩ := h
  · obtain ⟨rfl, rfl⟩ := hv
    exact ⟨none, 0, rfl, fun i hi => by omega, fun x hx => by cases hx⟩
  · have hlt : g < w.heap.size := by
      rcases Nat.lt_or_ge g w.heap.size with hlt | hge
      · exact hlt
      · rw [Array.getElem?_eq_none hge] at hh; cases hh
    have key : ∀ j, j < n * 3 → w.cell? ⟨g, j, none⟩ = some (celE St Ln Up j) := fun j hj => by
      rw [cell_of_row w g j cur e (0, 0) hh]
      have h1 : (cur.toList.take (n * 3))[j]? = (lstE St Ln Up n)[j]? := by rw [htake]
      rw [List.getElem?_take_of_lt hj] at h1
      rw [← Array.getElem?_toList, h1]
      simp [lstE, hj]
    refine ⟨_, _, rfl, fun i hi => ⟨g, 0, rfl, hlt, ?_, ?_, ?_⟩, fun x hx => by cases hx; exact hb⟩
    · rw [Nat.zero_add, key (i * 3) (by omega), celE_0]
    · rw [Nat.zero_add, key (i * 3 + 1) (by omega), celE_1]
    · rw [Nat.zero_add, key (i * 3 + 2) (by omega), celE_2]
theorem EdgB.cel {w : World} {a : Addr} {n : Nat} {St : Nat → Int} {Ln : Nat → Nat} {Up : Nat → Bool} {B : Nat} (h : EdgB w (some a) n St Ln Up B) (j : Nat) (hj : j < n * 3) : w.cell? (a.add j) = some (celE St Ln Up j) ∧ a.block < B := by
  obtain ⟨b, off, ha, hlt, h0, h1, h2⟩ := h (j / 3) (by omega)
  injection ha with ha
  subst ha
  rw [add_plain]
  refine ⟨?_, hlt⟩
  have hm : j % 3 = 0 ∨ j % 3 = 1 ∨ j % 3 = 2 := by omega
  rcases hm with hm | hm | hm
  · rw [show celE St Ln Up j = .int .i64 (St (j / 3)) from if_pos hm, show off + j = off + j / 3 * 3 from by omega]; exact h0
  · rw [show celE St Ln Up j = .int .u8 (Ln (j / 3) : Int) from (if_neg (by omega)).trans (if_pos hm), show off + j = off + j / 3 * 3 + 1 from by omega]; exact h1
  · rw [show celE St Ln Up j = .bool (Up (j / 3)) from (if_neg (by omega)).trans (if_neg (by omega)), show off + j = off + j / 3 * 3 + 2 from by omega]; exact h2

theorem EdgB.setRow_far {w : World} {a : Option Addr} {n : Nat} {St : Nat → Int} {Ln : Nat → Nat} {Up : Nat → Bool} {B g : Nat} (h : EdgB w a n St Ln Up B) (hg : ∀ x, a = some x → x.block ≠ g) (cs : Array Value) : EdgB (w.setRow g cs) a n St Ln Up B := fun i hi => by
  obtain ⟨b, off, ha, hlt, h0, h1, h2⟩ := h i hi
  have e := setRow_block w g cs b (hg _ ha)
  exact ⟨b, off, ha, hlt, (World.cell?_of_block e).trans h0, (World.cell?_of_block e).trans h1, (World.cell?_of_block e).trans h2⟩
theorem slCloneE_calls (o : Option Addr) (n c : Nat) (St : Nat → Int) (Ln : Nat → Nat) (Up : Nat → Bool) (w : World) (hn : n ≤ 1000) (hE : EdgB w o n St Ln Up w.heap.size) :
    Calls Tryz.prog 81 #[.slice o n c] w fun e w' => ∃ o' c', e = .returned (.slice o' n c') ∧ EdgB w' o' n St Ln Up w'.heap.size ∧ (∀ x, o' = some x → w.heap.size ≤ x.block) ∧ Below w.heap.size w w' := by
  obtain ⟨i0, hi, hz0, hz1, hz2⟩ := info_parts infoEdg
  have hnil := fun W a l c => run_eql_slice_nil W 79 144 a l c Tryz.underlying79
  have hnil2 := fun W a l c => run_equalIn_slice_nil W 9999 79 144 a l c Tryz.underlying79
  cases o with
  | none =>
    have hn0 : n = 0 := by
      rcases Nat.eq_zero_or_pos n with h | h
      · exact h
      · obtain ⟨_, _, h, _⟩ := hE 0 h; cases h
    subst hn0
    go_enter Tryz.func81, Tryz.ntmps81
    go_wp2_with fail
    go_ret
    refine ⟨none, 0, rfl, fun i hi => by omega, ?_, by (repeat (first | exact Below.refl _ _ | assumption | refine Below.drew ?_ | refine Bl.alloc ?_ _ | refine below_drewN ?_ _ | refine Bl.chain ?_ (by assumption) (Nat.le_refl _)))⟩
    intro x hx
    cases hx
  | some a =>
    have hown := World.ownsRow_lit w (base := w.heap.size) (e := 144) (size := 3) #[] 0 (Nat.le_refl _) (by decide) rfl
    go_enter Tryz.func81, Tryz.ntmps81
    go_wp2_with (at_builtin; refine wpList_append_own _ rfl _ _ 79 rfl w.heap.size 144 i0 (.agg #[.int .i64 0, .int .u8 0, .bool false]) 3 16 Tryz.underlying79 hi hz0 hz1 hz2 rfl (by decide) _ _ _ rfl hown _ n c (lstE St Ln Up n) rfl ?c0 ?c1 ?c2 ?c3 ?c4 ?c5 ?_)
    case c0 => simp [lstE]
    case c1 =>
      intro j u hu
      have hj : j < n * 3 := by
        have := (List.getElem?_eq_some_iff.1 hu).1
        simpa [lstE] using this
      have e : celE St Ln Up j = u := by simpa [lstE, hj] using hu
      obtain ⟨h1, h2⟩ := hE.cel j hj
      rw [← e]
      exact (World.cell?_alloc_lt w _ (a.add j) (by rw [show (a.add j).block = a.block from by unfold Addr.add; split <;> rfl]; exact h2)).trans h1
    case c2 =>
      intro u hu
      simp only [lstE, List.mem_map] at hu
      obtain ⟨j, _, rfl⟩ := hu
      exact celE_one _ _ _ _
    case c3 => unfold maxLen; omega
    case c4 => omega
    intro v1 w1 hown1 hgrow1 _
    obtain ⟨o', c', rfl, hn1, hlo⟩ := edg_of_own hown1
    go_wp2_with fail
    go_ret
    exact ⟨_, _, rfl, hn1, hlo, (Bl.alloc (Below.refl _ _) _).grown hgrow1 (by simp) (fun k hk => (hown.lt k hk).1)⟩

/-- Lines behind s edges. -/
def LB (w : World) (g : Nat) (o : Option Addr) (n c s : Nat) (Ln : Nat → Nat) (Up : Nat → Bool) (r : Bool) : Prop :=
  Blk w g 147 #[.slice o n c, .int .i64 (s : Int), .bool (upE Ln Up 0 s), .bool (upE Ln Up 1 s), .bool (upE Ln Up 2 s), .bool (upE Ln Up 3 s), .bool r]
theorem lnNew_calls (o : Option Addr) (n c : Nat) (St : Nat → Int) (Ln : Nat → Nat) (Up : Nat → Bool) (w : World) (hE : EdgB w o n St Ln Up w.heap.size) (h0 : (chkV St Ln n).1 = 0) (hn : n ≤ 1000) :
    Calls Tryz.prog 32 #[.slice o n c] w fun e w' => ∃ g o' c', e = .returned (.tuple #[.pointer (some ⟨g, 0, none⟩), .agg (fltA (0, 0))]) ∧ LB w' g o' n c' 0 Ln Up false ∧ EdgB w' o' n St Ln Up g ∧ w.heap.size ≤ g ∧ Below w.heap.size w w' := by
  have hz : Blk (w.alloc (.cells #[.int .i64 0, .int .i64 0] 48)) w.heap.size 48 #[.int .i64 0, .int .i64 0] := Blk.new _ _ _
  obtain ⟨p, hp⟩ : ∃ p, (chkV St Ln n).2 = p := ⟨_, rfl⟩
  have hck := fun W h => lnCheck_calls o n c St Ln Up W h
  rw [show chkV St Ln n = (0, p) from Prod.ext h0 hp] at hck
  clear h0 hp
  go_enter Tryz.func32, Tryz.ntmps32
  go_wp2_with fail
  refine Cl.m (hck _ ((hE.below ((Below.refl _ _).alloc (Nat.le_refl _) _) (Nat.le_refl _)).mono (by simp))) ?_
  intro w1 hb1
  have hb01 : Below w.heap.size w w1 := ((Below.refl _ _).alloc (Nat.le_refl _) _).trans (hb1.mono (by simp))
  have hz1 := hz.below hb1 hz.lt
  have hs1 := hb1.size
  simp at hs1
  have hzz : Blk (w1.alloc (.cells #[.int .i64 0, .int .i64 0] 48)) w1.heap.size 48 #[.int .i64 0, .int .i64 0] := Blk.new _ _ _
  have hzy : Blk (w1.alloc (.cells (fltA (0, p)) 48)) w1.heap.size 48 (fltA (0, p)) := Blk.new _ _ _
  have q0 : (w1.alloc (.cells (fltA (0, p)) 48)).cell? ⟨w1.heap.size, 0, none⟩ = some (.int .i64 0) := hzy.cell 0
  have hz2 := hz1.alloc (.cells (fltA (0, p)) 48)
  have hb02 : Below w.heap.size w (w1.alloc (.cells (fltA (0, p)) 48)) := hb01.alloc hb01.size _
  go_wp2_with (refine wpList_store_row rfl 48 _ _ rfl w1.heap.size _ rfl rfl 48 _ hzz (by kernel_rfl) rfl (by kernel_rfl) ?_; rw [setRow_new])
  generalize w1.alloc (.cells (fltA (0, p)) 48) = w2 at *
  have hs2 := hb02.size
  refine (slCloneE_calls o n c St Ln Up _ hn ((hE.below hb02 (Nat.le_refl _)).mono hs2)).mono ?_
  rintro e w3 ⟨o', c', rfl, hE3, hlo, hb3⟩
  have hz3 := hz2.below hb3 hz2.lt
  have hb03 := hb02.trans (hb3.mono hs2)
  have hz4 := hz3.alloc (.cells #[.slice o' n c', .int .i64 0, .bool false, .bool false, .bool false, .bool false, .bool false] 147)
  have hb04 : Below w.heap.size w (w3.alloc (.cells #[.slice o' n c', .int .i64 0, .bool false, .bool false, .bool false, .bool false, .bool false] 147)) := hb03.alloc hb03.size _
  go_wp2_with (refine wpList_store_row rfl 48 _ _ rfl w.heap.size _ rfl rfl 48 _ hz4 (by kernel_rfl) rfl (by kernel_rfl) ?_)
  have hL : LB (w3.alloc (.cells #[.slice o' n c', .int .i64 0, .bool false, .bool false, .bool false, .bool false, .bool false] 147)) w3.heap.size o' n c' 0 Ln Up false := Blk.new _ _ _
  have hs3 := hb3.size
  have hs03 := hb03.size
  have hz2l := hz2.lt
  refine bodyPost_ret (results_tc rfl rfl (hz4.setRow _) Tryz.underlying48 rfl (by kernel_rfl)) rfl ⟨w3.heap.size, o', c', rfl, Blk.setRow_far hL (by omega) _, ?_, by omega, below_setRow hb04 (Nat.le_refl _) _⟩
  refine EdgB.setRow_far (EdgB.only (S := fun _ => False) hE3 ((Only.refl _ _).alloc _) (fun _ _ e => e)) (fun x hx => ?_) _
  have := hlo x hx
  have hs4 := hb3.size
  omega
theorem drewN_twice (w : World) (a b : Nat) : ∃ q, (w.drewN a).drewN b = w.drewN q := ⟨a + b, by rw [World.drewN_drewN]⟩
theorem lnNext_some (g : Nat) (o : Option Addr) (n c s : Nat) (St : Nat → Int) (Ln : Nat → Nat) (Up : Nat → Bool) (r : Bool) (w : World) (hL : LB w g o n c s Ln Up r) (hE : EdgB w o n St Ln Up w.heap.size) (hs : s < n) :
    Calls Tryz.prog 221 #[.pointer (some ⟨g, 0, none⟩)] w fun e w' => e = .returned (.tuple #[.int .i64 (St s), .bool true]) ∧ ∃ q, w' = w.drewN q := by
  have c0 : w.cell? ⟨g, 0, none⟩ = some (.slice o n c) := Blk.cell hL 0
  have c1 : w.cell? ⟨g, 1, none⟩ = some (.int .i64 (s : Int)) := Blk.cell hL 1
  have hs' : (s : Int) < (n : Int) := by omega
  have hs2 : (decide ((n : Int) ≤ (s : Int))) = false := by rw [decide_eq_false_iff_not]; omega
  obtain ⟨b, off, rfl, hlt, x0, x1, x2⟩ := hE s hs
  have y0 : w.drew.cell? ⟨b, off + s * 3, none⟩ = some (.int .i64 (St s)) := x0
  go_enter Tryz.func221, Tryz.ntmps221
  go_wp2_with fail
  go_quiet (fail)
  go_wp2_with fail
  go_quiet (fail)
  go_wp2_with fail
  go_ret2
  exact ⟨rfl, drewN_twice _ _ _⟩
theorem lnNext_none (g : Nat) (o : Option Addr) (n c s : Nat) (Ln : Nat → Nat) (Up : Nat → Bool) (r : Bool) (w : World) (hL : LB w g o n c s Ln Up r) (hs : n ≤ s) :
    Calls Tryz.prog 221 #[.pointer (some ⟨g, 0, none⟩)] w fun e w' => e = .returned (.tuple #[.int .i64 0, .bool false]) ∧ ∃ q, w' = w.drewN q := by
  have c0 : w.cell? ⟨g, 0, none⟩ = some (.slice o n c) := Blk.cell hL 0
  have c1 : w.cell? ⟨g, 1, none⟩ = some (.int .i64 (s : Int)) := Blk.cell hL 1
  have hs' : (n : Int) ≤ (s : Int) := by omega
  go_enter Tryz.func221, Tryz.ntmps221
  go_wp2_with fail
  go_quiet (fail)
  go_wp2_with fail
  go_ret2
  exact ⟨rfl, _, rfl⟩
end Go.Proofs.YtplobngbjpgcgaaGreatDoor
end
