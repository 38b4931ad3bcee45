/-
  slices.Clone of edges; lines: New, Take, Rose, Seen, Next, Up, Clone.
-/
import Derived.Test.YtemfdkoipeedeaaLn2
import Derived.Lib.LazyBuf
namespace Go.Proofs.Ytemfdkoipeedeaa
set_option linter.unusedSimpArgs false
set_option linter.unusedVariables false
set_option maxRecDepth 10000
open Go.RowKit

theorem infoEdg : (Try.prog.info? 95).map (fun i => (i.zero, i.size, i.bytes)) = some (some (.agg #[.int .i64 0, .int .u8 0, .bool false]), 3, 16) := by kernel_rfl
/-- Cell j of edges in a row. -/
def celE (St : Nat → Int) (Ln : Nat → Nat) (Up : Nat → Bool) (j : Nat) : Value := if j % 3 = 0 then .int .i64 (St (j / 3)) else if j % 3 = 1 then .int .u8 (Ln (j / 3) : Int) else .bool (Up (j / 3))
theorem celE_0 (St : Nat → Int) (Ln : Nat → Nat) (Up : Nat → Bool) (i : Nat) : celE St Ln Up (i * 3) = .int .i64 (St i) := by
  unfold celE
  rw [if_pos (by omega), show i * 3 / 3 = i from by omega]
theorem celE_1 (St : Nat → Int) (Ln : Nat → Nat) (Up : Nat → Bool) (i : Nat) : celE St Ln Up (i * 3 + 1) = .int .u8 (Ln i : Int) := by
  unfold celE
  rw [if_neg (by omega), if_pos (by omega), show (i * 3 + 1) / 3 = i from by omega]
theorem celE_2 (St : Nat → Int) (Ln : Nat → Nat) (Up : Nat → Bool) (i : Nat) : celE St Ln Up (i * 3 + 2) = .bool (Up i) := by
  unfold celE
  rw [if_neg (by omega), if_neg (by omega), show (i * 3 + 2) / 3 = i from by omega]
theorem celE_one (St : Nat → Int) (Ln : Nat → Nat) (Up : Nat → Bool) (j : Nat) : (celE St Ln Up j).oneCell' = true := by
  unfold celE
  repeat (first | rfl | split)
def lstE (St : Nat → Int) (Ln : Nat → Nat) (Up : Nat → Bool) (n : Nat) : List Value := (List.range (n * 3)).map (celE St Ln Up)
/-- What the call owns, as edges. -/
theorem edg_of_own {w : World} {base n : Nat} {e : TypeId} {v : Value} {St : Nat → Int} {Ln : Nat → Nat} {Up : Nat → Bool} (h : w.ownsRow base e 3 v n (lstE St Ln Up n)) :
    ∃ a c, v = .slice a n c ∧ EdgB w a n St Ln Up w.heap.size ∧ ∀ x, a = some x → base ≤ x.block := by
  obtain ⟨hl, hv | ⟨g, cap, cur, rfl, hb, hh, hn, hcap, hsz, htake⟩⟩ := h
  · obtain ⟨rfl, rfl⟩ := hv
    exact ⟨none, 0, rfl, fun i hi => by omega, fun x hx => by cases hx⟩
  · have hlt : g < w.heap.size := by
      rcases Nat.lt_or_ge g w.heap.size with hlt | hge
      · exact hlt
      · rw [Array.getElem?_eq_none hge] at hh; cases hh
    have key : ∀ j, j < n * 3 → w.cell? ⟨g, j, none⟩ = some (celE St Ln Up j) := fun j hj => by
      rw [cell_of_row w g j cur e (0, 0) hh]
      have h1 : (cur.toList.take (n * 3))[j]? = (lstE St Ln Up n)[j]? := by rw [htake]
      rw [List.getElem?_take_of_lt hj] at h1
      rw [← Array.getElem?_toList, h1]
      simp [lstE, hj]
    refine ⟨_, _, rfl, fun i hi => ⟨g, 0, rfl, hlt, ?_, ?_, ?_⟩, fun x hx => by cases hx; exact hb⟩
    · rw [Nat.zero_add, key (i * 3) (by omega), celE_0]
    · rw [Nat.zero_add, key (i * 3 + 1) (by omega), celE_1]
    · rw [Nat.zero_add, key (i * 3 + 2) (by omega), celE_2]
theorem EdgB.cel {w : World} {a : Addr} {n : Nat} {St : Nat → Int} {Ln : Nat → Nat} {Up : Nat → Bool} {B : Nat} (h : EdgB w (some a) n St Ln Up B) (j : Nat) (hj : j < n * 3) : w.cell? (a.add j) = some (celE St Ln Up j) ∧ a.block < B := by
  obtain ⟨b, off, ha, hlt, h0, h1, h2⟩ := h (j / 3) (by omega)
  injection ha with ha
  subst ha
  rw [add_plain]
  refine ⟨?_, hlt⟩
  have hm : j % 3 = 0 ∨ j % 3 = 1 ∨ j % 3 = 2 := by omega
  rcases hm with hm | hm | hm
  · rw [show celE St Ln Up j = .int .i64 (St (j / 3)) from if_pos hm, show off + j = off + j / 3 * 3 from by omega]; exact h0
  · rw [show celE St Ln Up j = .int .u8 (Ln (j / 3) : Int) from (if_neg (by omega)).trans (if_pos hm), show off + j = off + j / 3 * 3 + 1 from by omega]; exact h1
  · rw [show celE St Ln Up j = .bool (Up (j / 3)) from (if_neg (by omega)).trans (if_neg (by omega)), show off + j = off + j / 3 * 3 + 2 from by omega]; exact h2

theorem EdgB.setRow_far {w : World} {a : Option Addr} {n : Nat} {St : Nat → Int} {Ln : Nat → Nat} {Up : Nat → Bool} {B g : Nat} (h : EdgB w a n St Ln Up B) (hg : ∀ x, a = some x → x.block ≠ g) (cs : Array Value) : EdgB (w.setRow g cs) a n St Ln Up B := fun i hi => by
  obtain ⟨b, off, ha, hlt, h0, h1, h2⟩ := h i hi
  have e := setRow_block w g cs b (hg _ ha)
  exact ⟨b, off, ha, hlt, (World.cell?_of_block e).trans h0, (World.cell?_of_block e).trans h1, (World.cell?_of_block e).trans h2⟩
theorem slCloneE_calls (o : Option Addr) (n c : Nat) (St : Nat → Int) (Ln : Nat → Nat) (Up : Nat → Bool) (w : World) (hn : n ≤ 1000) (hE : EdgB w o n St Ln Up w.heap.size) :
    Calls Try.prog 38 #[.slice o n c] w fun e w' => ∃ o' c', e = .returned (.slice o' n c') ∧ EdgB w' o' n St Ln Up w'.heap.size ∧ (∀ x, o' = some x → w.heap.size ≤ x.block) ∧ Below w.heap.size w w' := by
  obtain ⟨i0, hi, hz0, hz1, hz2⟩ := info_parts infoEdg
  have hnil := fun W a l c => run_eql_slice_nil W 52 95 a l c Try.underlying52
  have hnil2 := fun W a l c => run_equalIn_slice_nil W 9999 52 95 a l c Try.underlying52
  cases o with
  | none =>
    have hn0 : n = 0 := by
      rcases Nat.eq_zero_or_pos n with h | h
      · exact h
      · obtain ⟨_, _, h, _⟩ := hE 0 h; cases h
    subst hn0
    go_enter Try.func38, Try.ntmps38
    go_wp2_with fail
    go_ret
    refine ⟨none, 0, rfl, fun i hi => by omega, ?_, by (repeat (first | exact Below.refl _ _ | assumption | refine Below.drew ?_ | refine Bl.alloc ?_ _ | refine below_drewN ?_ _ | refine Bl.chain ?_ (by assumption) (Nat.le_refl _)))⟩
    intro x hx
    cases hx
  | some a =>
    have hown := World.ownsRow_lit w (base := w.heap.size) (e := 95) (size := 3) #[] 0 (Nat.le_refl _) (by decide) rfl
    go_enter Try.func38, Try.ntmps38
    go_wp2_with (at_builtin; refine wpList_append_own _ rfl _ _ 52 rfl w.heap.size 95 i0 (.agg #[.int .i64 0, .int .u8 0, .bool false]) 3 16 Try.underlying52 hi hz0 hz1 hz2 rfl (by decide) _ _ _ rfl hown _ n c (lstE St Ln Up n) rfl ?c0 ?c1 ?c2 ?c3 ?c4 ?c5 ?_)
    case c0 => simp [lstE]
    case c1 =>
      intro j u hu
      have hj : j < n * 3 := by
        have := (List.getElem?_eq_some_iff.1 hu).1
        simpa [lstE] using this
      have e : celE St Ln Up j = u := by simpa [lstE, hj] using hu
      obtain ⟨h1, h2⟩ := hE.cel j hj
      rw [← e]
      exact (World.cell?_alloc_lt w _ (a.add j) (by rw [show (a.add j).block = a.block from by unfold Addr.add; split <;> rfl]; exact h2)).trans h1
    case c2 =>
      intro u hu
      simp only [lstE, List.mem_map] at hu
      obtain ⟨j, _, rfl⟩ := hu
      exact celE_one _ _ _ _
    case c3 => unfold maxLen; omega
    case c4 => omega
    intro v1 w1 hown1 hgrow1 _
    obtain ⟨o', c', rfl, hn1, hlo⟩ := edg_of_own hown1
    go_wp2_with fail
    go_ret
    exact ⟨_, _, rfl, hn1, hlo, (Bl.alloc (Below.refl _ _) _).grown hgrow1 (by simp) (fun k hk => (hown.lt k hk).1)⟩

/-- Lines behind s edges. -/
def LB (w : World) (g : Nat) (o : Option Addr) (n c s : Nat) (Ln : Nat → Nat) (Up : Nat → Bool) (r : Bool) : Prop :=
  Blk w g 98 #[.slice o n c, .int .i64 (s : Int), .bool (upE Ln Up 0 s), .bool (upE Ln Up 1 s), .bool (upE Ln Up 2 s), .bool (upE Ln Up 3 s), .bool r]
theorem lnNew_calls (o : Option Addr) (n c : Nat) (St : Nat → Int) (Ln : Nat → Nat) (Up : Nat → Bool) (w : World) (hE : EdgB w o n St Ln Up w.heap.size) (h0 : (chkV St Ln n).1 = 0) (hn : n ≤ 1000) :
    Calls Try.prog 17 #[.slice o n c] w fun e w' => ∃ g o' c', e = .returned (.tuple #[.pointer (some ⟨g, 0, none⟩), .agg (fltA (0, 0))]) ∧ LB w' g o' n c' 0 Ln Up false ∧ EdgB w' o' n St Ln Up g ∧ w.heap.size ≤ g ∧ Below w.heap.size w w' := by
  have hz : Blk (w.alloc (.cells #[.int .i64 0, .int .i64 0] 30)) w.heap.size 30 #[.int .i64 0, .int .i64 0] := Blk.new _ _ _
  obtain ⟨p, hp⟩ : ∃ p, (chkV St Ln n).2 = p := ⟨_, rfl⟩
  have hck := fun W h => lnCheck_calls o n c St Ln Up W h
  rw [show chkV St Ln n = (0, p) from Prod.ext h0 hp] at hck
  clear h0 hp
  go_enter Try.func17, Try.ntmps17
  go_wp2_with fail
  refine Cl.m (hck _ ((hE.below ((Below.refl _ _).alloc (Nat.le_refl _) _) (Nat.le_refl _)).mono (by simp))) ?_
  intro w1 hb1
  have hb01 : Below w.heap.size w w1 := ((Below.refl _ _).alloc (Nat.le_refl _) _).trans (hb1.mono (by simp))
  have hz1 := hz.below hb1 hz.lt
  have hs1 := hb1.size
  simp at hs1
  have hzz : Blk (w1.alloc (.cells #[.int .i64 0, .int .i64 0] 30)) w1.heap.size 30 #[.int .i64 0, .int .i64 0] := Blk.new _ _ _
  have hzy : Blk (w1.alloc (.cells (fltA (0, p)) 30)) w1.heap.size 30 (fltA (0, p)) := Blk.new _ _ _
  have q0 : (w1.alloc (.cells (fltA (0, p)) 30)).cell? ⟨w1.heap.size, 0, none⟩ = some (.int .i64 0) := hzy.cell 0
  have hz2 := hz1.alloc (.cells (fltA (0, p)) 30)
  have hb02 : Below w.heap.size w (w1.alloc (.cells (fltA (0, p)) 30)) := hb01.alloc hb01.size _
  go_wp2_with (refine wpList_store_row rfl 30 _ _ rfl w1.heap.size _ rfl rfl 30 _ hzz (by kernel_rfl) rfl (by kernel_rfl) ?_; rw [setRow_new])
  generalize w1.alloc (.cells (fltA (0, p)) 30) = w2 at *
  have hs2 := hb02.size
  refine (slCloneE_calls o n c St Ln Up _ hn ((hE.below hb02 (Nat.le_refl _)).mono hs2)).mono ?_
  rintro e w3 ⟨o', c', rfl, hE3, hlo, hb3⟩
  have hz3 := hz2.below hb3 hz2.lt
  have hb03 := hb02.trans (hb3.mono hs2)
  have hz4 := hz3.alloc (.cells #[.slice o' n c', .int .i64 0, .bool false, .bool false, .bool false, .bool false, .bool false] 98)
  have hb04 : Below w.heap.size w (w3.alloc (.cells #[.slice o' n c', .int .i64 0, .bool false, .bool false, .bool false, .bool false, .bool false] 98)) := hb03.alloc hb03.size _
  go_wp2_with (refine wpList_store_row rfl 30 _ _ rfl w.heap.size _ rfl rfl 30 _ hz4 (by kernel_rfl) rfl (by kernel_rfl) ?_)
  have hL : LB (w3.alloc (.cells #[.slice o' n c', .int .i64 0, .bool false, .bool false, .bool false, .bool false, .bool false] 98)) w3.heap.size o' n c' 0 Ln Up false := Blk.new _ _ _
  have hs3 := hb3.size
  have hs03 := hb03.size
  have hz2l := hz2.lt
  refine bodyPost_ret (results_tc rfl rfl (hz4.setRow _) Try.underlying30 rfl (by kernel_rfl)) rfl ⟨w3.heap.size, o', c', rfl, Blk.setRow_far hL (by omega) _, ?_, by omega, below_setRow hb04 (Nat.le_refl _) _⟩
  refine EdgB.setRow_far (EdgB.only (S := fun _ => False) hE3 ((Only.refl _ _).alloc _) (fun _ _ e => e)) (fun x hx => ?_) _
  have := hlo x hx
  have hs4 := hb3.size
  omega
theorem lnNew_bad (o : Option Addr) (n c : Nat) (St : Nat → Int) (Ln : Nat → Nat) (Up : Nat → Bool) (w : World) (hE : EdgB w o n St Ln Up w.heap.size) (h0 : (chkV St Ln n).1 ≠ 0) :
    Calls Try.prog 17 #[.slice o n c] w fun e w' => e = .returned (.tuple #[.pointer none, .agg (fltA (chkV St Ln n))]) ∧ Below w.heap.size w w' := by
  have hz : Blk (w.alloc (.cells #[.int .i64 0, .int .i64 0] 30)) w.heap.size 30 #[.int .i64 0, .int .i64 0] := Blk.new _ _ _
  have hne : (((chkV St Ln n).1 : Int) != 0) = true := by rw [bne_iff_ne]; omega
  go_enter Try.func17, Try.ntmps17
  go_wp2_with fail
  refine Cl.m (lnCheck_calls _ _ _ _ _ _ _ ((hE.below ((Below.refl _ _).alloc (Nat.le_refl _) _) (Nat.le_refl _)).mono (by simp))) ?_
  intro w1 hb1
  have hb01 : Below w.heap.size w w1 := ((Below.refl _ _).alloc (Nat.le_refl _) _).trans (hb1.mono (by simp))
  have hz1 := hz.below hb1 hz.lt
  have hs1 := hb1.size
  simp at hs1
  obtain ⟨⟨p1, p2⟩, hp⟩ : ∃ p, chkV St Ln n = p := ⟨_, rfl⟩
  rw [hp] at hne h0 ⊢
  dsimp only at hne h0
  have hzz : Blk (w1.alloc (.cells #[.int .i64 0, .int .i64 0] 30)) w1.heap.size 30 #[.int .i64 0, .int .i64 0] := Blk.new _ _ _
  have hzy : Blk (w1.alloc (.cells (fltA (p1, p2)) 30)) w1.heap.size 30 (fltA (p1, p2)) := Blk.new _ _ _
  have q0 : (w1.alloc (.cells (fltA (p1, p2)) 30)).cell? ⟨w1.heap.size, 0, none⟩ = some (.int .i64 (p1 : Int)) := hzy.cell 0
  have hz2 := hz1.alloc (.cells (fltA (p1, p2)) 30)
  have hb02 : Below w.heap.size w (w1.alloc (.cells (fltA (p1, p2)) 30)) := hb01.alloc hb01.size _
  go_wp2_with (refine wpList_store_row rfl 30 _ _ rfl w1.heap.size _ rfl rfl 30 _ hzz (by kernel_rfl) rfl (by kernel_rfl) ?_; rw [setRow_new])
  have q1 : (w1.alloc (.cells (fltA (p1, p2)) 30)).cell? ⟨w1.heap.size, 1, none⟩ = some (.int .i64 (p2 : Int)) := hzy.cell 1
  have q2 : (w1.alloc (.cells (fltA (p1, p2)) 30)).cell? ⟨w.heap.size, 0, none⟩ = some (.int .i64 0) := hz2.cell 0
  have q3 : (w1.alloc (.cells (fltA (p1, p2)) 30)).cell? ⟨w.heap.size, 1, none⟩ = some (.int .i64 0) := hz2.cell 1
  have q4 : (w1.alloc (.cells (fltA (p1, p2)) 30)).frozen? ⟨w.heap.size, 0, none⟩ = false := hz2.frozen 0
  have q5 : (w1.alloc (.cells (fltA (p1, p2)) 30)).frozen? ⟨w.heap.size, 1, none⟩ = false := hz2.frozen 1
  generalize w1.alloc (.cells (fltA (p1, p2)) 30) = w2 at *
  have r0 : w2.drew.cell? ⟨w1.heap.size, 0, none⟩ = some (.int .i64 (p1 : Int)) := q0
  have r1 : w2.drew.cell? ⟨w1.heap.size, 1, none⟩ = some (.int .i64 (p2 : Int)) := q1
  have r2 : w2.drew.cell? ⟨w.heap.size, 0, none⟩ = some (.int .i64 0) := q2
  have r3 : w2.drew.cell? ⟨w.heap.size, 1, none⟩ = some (.int .i64 0) := q3
  have r4 : w2.drew.frozen? ⟨w.heap.size, 0, none⟩ = false := q4
  have r5 : w2.drew.frozen? ⟨w.heap.size, 1, none⟩ = false := q5
  go_region
  all_goals
    go_wp2_with fail
    have hX := (hz2.set_ 0 (.int .i64 (p1 : Int))).set_ 1 (.int .i64 (p2 : Int))
    have hbX := (hb02.setCell (p := ⟨w.heap.size, 0, none⟩) (Nat.le_refl _) (.int .i64 (p1 : Int))).setCell (p := ⟨w.heap.size, 1, none⟩) (Nat.le_refl _) (.int .i64 (p2 : Int))
    refine bodyPost_ret (results_tc rfl rfl hX.drew Try.underlying30 rfl (by kernel_rfl)) rfl ⟨by rw [hp]; rfl, hbX.drew⟩
theorem nilUp_calls (y : Int) (w : World) : Calls Try.prog 81 #[.pointer none, .int .u8 y] w fun e w' => e = .returned (.bool false) ∧ w = w' := by
  go_enter Try.func81, Try.ntmps81
  go_wp2_with fail
  go_ret
  exact ⟨rfl, rfl⟩
theorem nilNext_calls (w : World) : Calls Try.prog 74 #[.pointer none] w fun e w' => e = .returned (.tuple #[.int .i64 0, .bool false]) ∧ ∃ q, w' = w.drewN q := by
  go_enter Try.func74, Try.ntmps74
  go_wp2_with fail
  go_quiet (fail)
  go_wp2_with fail
  go_ret2
  exact ⟨rfl, _, rfl⟩
theorem drewN_twice (w : World) (a b : Nat) : ∃ q, (w.drewN a).drewN b = w.drewN q := ⟨a + b, by rw [World.drewN_drewN]⟩
theorem lnNext_some (g : Nat) (o : Option Addr) (n c s : Nat) (St : Nat → Int) (Ln : Nat → Nat) (Up : Nat → Bool) (r : Bool) (w : World) (hL : LB w g o n c s Ln Up r) (hE : EdgB w o n St Ln Up w.heap.size) (hs : s < n) :
    Calls Try.prog 74 #[.pointer (some ⟨g, 0, none⟩)] w fun e w' => e = .returned (.tuple #[.int .i64 (St s), .bool true]) ∧ ∃ q, w' = w.drewN q := by
  have c0 : w.cell? ⟨g, 0, none⟩ = some (.slice o n c) := Blk.cell hL 0
  have c1 : w.cell? ⟨g, 1, none⟩ = some (.int .i64 (s : Int)) := Blk.cell hL 1
  have hs' : (s : Int) < (n : Int) := by omega
  have hs2 : (decide ((n : Int) ≤ (s : Int))) = false := by rw [decide_eq_false_iff_not]; omega
  obtain ⟨b, off, rfl, hlt, x0, x1, x2⟩ := hE s hs
  have y0 : w.drew.cell? ⟨b, off + s * 3, none⟩ = some (.int .i64 (St s)) := x0
  go_enter Try.func74, Try.ntmps74
  go_wp2_with fail
  go_quiet (fail)
  go_wp2_with fail
  go_quiet (fail)
  go_wp2_with fail
  go_ret2
  exact ⟨rfl, drewN_twice _ _ _⟩
theorem lnNext_none (g : Nat) (o : Option Addr) (n c s : Nat) (Ln : Nat → Nat) (Up : Nat → Bool) (r : Bool) (w : World) (hL : LB w g o n c s Ln Up r) (hs : n ≤ s) :
    Calls Try.prog 74 #[.pointer (some ⟨g, 0, none⟩)] w fun e w' => e = .returned (.tuple #[.int .i64 0, .bool false]) ∧ ∃ q, w' = w.drewN q := by
  have c0 : w.cell? ⟨g, 0, none⟩ = some (.slice o n c) := Blk.cell hL 0
  have c1 : w.cell? ⟨g, 1, none⟩ = some (.int .i64 (s : Int)) := Blk.cell hL 1
  have hs' : (n : Int) ≤ (s : Int) := by omega
  go_enter Try.func74, Try.ntmps74
  go_wp2_with fail
  go_quiet (fail)
  go_wp2_with fail
  go_ret2
  exact ⟨rfl, _, rfl⟩
def upK (Ln : Nat → Nat) (Up : Nat → Bool) (k s : Nat) : Bool := if k < 4 then upE Ln Up k s else false
theorem lnUp_calls (g : Nat) (o : Option Addr) (n c s k : Nat) (Ln : Nat → Nat) (Up : Nat → Bool) (r : Bool) (w : World) (hL : LB w g o n c s Ln Up r) :
    Calls Try.prog 81 #[.pointer (some ⟨g, 0, none⟩), .int .u8 (k : Int)] w fun e w' => e = .returned (.bool (upK Ln Up k s)) ∧ w = w' := by
  by_cases hk : k < 4
  · have e : upK Ln Up k s = upE Ln Up k s := if_pos hk
    rw [e]
    have hk' : (k : Int) < 4 := by omega
    have ck : w.cell? ⟨g, 2 + k, none⟩ = some (.bool (upE Ln Up k s)) := by
      rw [Blk.cell hL]
      match k, hk with
      | 0, _ | 1, _ | 2, _ | 3, _ => rfl
    clear e
    go_enter Try.func81, Try.ntmps81
    go_wp2_with fail
    go_ret
    exact ⟨rfl, rfl⟩
  · have e : upK Ln Up k s = false := if_neg hk
    rw [e]
    have hk' : (decide ((k : Int) < 4)) = false := by rw [decide_eq_false_iff_not]; omega
    clear e hk
    go_enter Try.func81, Try.ntmps81
    go_wp2_with fail
    go_ret
    exact ⟨rfl, rfl⟩
end Go.Proofs.Ytemfdkoipeedeaa
