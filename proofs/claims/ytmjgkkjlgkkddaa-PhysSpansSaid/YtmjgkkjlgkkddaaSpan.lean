/-
  Package phys: more, last, Span.
-/
import Derived.Test.YtmjgkkjlgkkddaaPhys
import Derived.Test.YtmjgkkjlgkkddaaBspan
import Derived.Test.YtmjgkkjlgkkddaaOpen
import Derived.Deep.RegionLaw
import Derived.Deep.AppendLies
import Derived.OwnWalk
import Derived.Laws.OwnMore
namespace Go.Proofs.Ytmjgkkjlgkkddaa
open Go.RowKit Pl

def flat (l : Rws) : List Value := l.flatMap fun p => [.int .u32 (p.1 : Int), .int .u32 (p.2 : Int)]
theorem flat_append (l m : Rws) : flat (l ++ m) = flat l ++ flat m := by simp [flat]
theorem flat_one (a m : Nat) : flat [(a, m)] = [.int .u32 (a : Int), .int .u32 (m : Int)] := rfl
theorem flat_len (l : Rws) : (flat l).length = l.length * 2 := by
  induction l with
  | nil => rfl
  | cons x l ih => simp only [flat, List.flatMap_cons, List.length_append] at ih ⊢; simp [flat] at ih ⊢; omega
theorem flat_get (l : Rws) (i : Nat) (h : i < l.length) : (flat l)[i * 2]? = some (.int .u32 (l[i].1 : Int)) ∧ (flat l)[i * 2 + 1]? = some (.int .u32 (l[i].2 : Int)) := by
  induction l generalizing i with
  | nil => simp at h
  | cons x l ih =>
    cases i with
    | zero => exact ⟨rfl, rfl⟩
    | succ i =>
      have := ih i (by simpa using h)
      rw [show (i + 1) * 2 = i * 2 + 1 + 1 from by omega]
      simpa [flat] using this
theorem infoRow : (Try.prog.info? 38).map (fun i => (i.zero, i.size, i.bytes)) = some (some (.agg #[.int .u32 0, .int .u32 0]), 2, 8) := by kernel_rfl
theorem own_slice {w : World} {base n size : Nat} {e : TypeId} {v : Value} {xs : List Value} (h : w.ownsRow base e size v n xs) : ∃ a c, v = .slice a n c := by
  obtain ⟨hl, hv | ⟨g, cap, cur, rfl, hb, hh, hn, hcap, hsz, htake⟩⟩ := h
  · obtain ⟨rfl, rfl⟩ := hv
    exact ⟨none, 0, rfl⟩
  · exact ⟨_, _, rfl⟩
theorem own_below {w w' : World} {base n size B : Nat} {e : TypeId} {v : Value} {xs : List Value} (h : w.ownsRow base e size v n xs) (hb : Below B w w') (hB : w.heap.size ≤ B) : w'.ownsRow base e size v n xs := by
  have hlt := h.lt
  obtain ⟨hl, hv | ⟨g, cap, cur, rfl, hb', hh, hn, hcap, hsz, htake⟩⟩ := h
  · exact ⟨hl, Or.inl hv⟩
  · have := (hlt g rfl).2
    exact ⟨hl, Or.inr ⟨g, cap, cur, rfl, hb', (hb.block g (by omega)).trans hh, hn, hcap, hsz, htake⟩⟩

def Own2 (w : World) (base : Nat) (v : Value) (l : Rws) : Prop := w.ownsRow base 38 2 v l.length (flat l)

theorem flat_set (l : Rws) (a m x : Nat) : (flat (l ++ [(a, m)])).set (l.length * 2 + 1) (.int .u32 (x : Int)) = flat (l ++ [(a, x)]) := by
  rw [flat_append, flat_append, flat_one, flat_one, List.set_append_right _ _ (by rw [flat_len]; omega), flat_len, show l.length * 2 + 1 - l.length * 2 = 1 from by omega]
  rfl
theorem two_int (x y : Int) : ∀ u ∈ [Value.int .u32 x, Value.int .u32 y], u.oneCell' = true := by
  intro u hu
  simp at hu
  rcases hu with rfl | rfl <;> rfl
/-- All blocks but one stay as they are. -/
def Keeps (w w' : World) (row : Option Nat) : Prop := w.heap.size ≤ w'.heap.size ∧ ∀ k, k < w.heap.size → some k ≠ row → w'.heap[k]? = w.heap[k]?
theorem Keeps.refl (w : World) (row : Option Nat) : Keeps w w row := ⟨Nat.le_refl _, fun _ _ _ => rfl⟩
theorem Keeps.below {w w1 w2 : World} {B : Nat} {row : Option Nat} (h : Keeps w w1 row) (hb : Below B w1 w2) (hB : w.heap.size ≤ B) : Keeps w w2 row :=
  ⟨Nat.le_trans h.1 hb.size, fun k hk hr => (hb.block k (by omega)).trans (h.2 k hk hr)⟩
theorem Keeps.grown {w w1 w2 : World} {row : Option Nat} (h : Keeps w w1 row) (hg : w1.grownBy w2 row) : Keeps w w2 row :=
  ⟨Nat.le_trans h.1 hg.size, fun k hk hr => (hg.block k (Nat.lt_of_lt_of_le hk h.1) hr).trans (h.2 k hk hr)⟩
theorem Keeps.set {w w1 : World} {g : Nat} (h : Keeps w w1 (some g)) (a : Addr) (ha : a.block = g) (u : Value) : Keeps w (w1.setCell a u) (some g) := by
  refine ⟨by simp [World.setCell, h.1], fun k hk hr => ?_⟩
  have hne : k ≠ a.block := fun e => hr (by rw [e, ha])
  exact (Below.heap_setCell w1 a u k hne).trans (h.2 k hk hr)
theorem Blk.keeps {w w' : World} {row : Option Nat} {g : Nat} {t : TypeId} {cs : Array Value} (h : Blk w g t cs) (hk : Keeps w w' row) (hne : some g ≠ row) : Blk w' g t cs := (hk.2 g h.lt hne).trans h
set_option maxHeartbeats 4000000 in
theorem phMore_calls (l : Rws) (f n : Nat) (base : Nat) (v : Value) (w : World) (hb : base ≤ w.heap.size) (hf : f + n ≤ 2097152) (hs : small 2097152 l) (hl : l.length < 1000) (ho : Own2 w base v l) :
    Calls Try.prog 29 #[v, .int .u32 (f : Int), .int .u32 (n : Int)] w fun e w' => ∃ v', e = .returned v' ∧ Own2 w' base v' (moreL l f n) ∧ Below base w w' ∧ Keeps w w' v.ownBlock ∧ (∀ k, v'.ownBlock = some k → v.ownBlock = some k ∨ w.heap.size ≤ k) := by
  unfold Own2 at ho ⊢
  obtain ⟨i0, hi, hz0, hz1, hz2⟩ := info_parts infoRow
  rcases List.eq_nil_or_concat l with rfl | ⟨l, ⟨a, m⟩, rfl⟩
  · obtain ⟨o, c, rfl⟩ := own_slice ho
    go_enter Try.func29, Try.ntmps29
    go_wp2_with fail
    go_quiet (fail)
    have ho2 := own_below ho (below_drewN (Below.refl w.heap.size w) nq) (Nat.le_refl _)
    have hbel : Below base w (w.drewN nq) := below_drewN (Below.refl base w) nq
    have hkp : ∀ row, Keeps w (w.drewN nq) row := fun row => (Keeps.refl w row).below (below_drewN (Below.refl w.heap.size w) nq) (Nat.le_refl _)
    generalize w.drewN nq = w2 at *
    have hb2 := Nat.le_trans hb hbel.size
    go_wp2_with (at_builtin; refine wpList_append_lies _ rfl _ _ 36 rfl base 38 i0 _ 2 8 Try.underlying36 hi hz0 hz1 hz2 rfl (by decide) _ _ _ rfl (ho2.alloc _) _ 1 1 [.int .u32 (f : Int), .int .u32 (n : Int)] rfl rfl ?c1 ?c2 (by decide) ?c3 ?c4 ?c5 _ rfl ?_)
    case c1 => exact World.news_of_block (cs := #[.int .u32 (f : Int), .int .u32 (n : Int)]) (heap_alloc_new _ _)
    case c2 => exact two_int _ _
    case c3 => unfold maxLen; simp
    case c4 => simp
    case c5 => simp; omega
    intro gg cap w1 hown1 hgrow1 hat hlt1
    go_wp2_with fail
    go_ret
    refine ⟨_, rfl, hown1, (Below.alloc hbel hb2 _).grown hgrow1 (by simp; omega) (fun k hk => by have := (ho2.lt k hk).1; omega), ((hkp _).below ((Below.refl w2.heap.size w2).alloc (Nat.le_refl _) _) (hkp none).1).grown hgrow1, fun k hk => ?_⟩
    rcases hat with h | h
    · left; rw [h]; exact hk
    · right
      have hk' : gg = k := by simpa [Value.ownBlock] using hk
      have := (hkp none).1
      try simp at h
      omega
  · rw [List.concat_eq_append] at *
    have hk : (0 : Int) < (l.length : Int) + 1 := by omega
    have hsz : (l ++ [(a, m)]).length = l.length + 1 := by simp
    have hsm := hs (a, m) (by simp)
    simp only at hsm
    rw [hsz] at ho
    obtain ⟨g, c, rfl, hgb, hgl⟩ := ho.form (by omega)
    have hc0 := ho.cellAt (l.length * 2) (by omega)
    have hc1 := ho.cellAt (l.length * 2 + 1) (by omega)
    have hf1 := ho.frozenAt (l.length * 2 + 1)
    have hfl := flat_get (l ++ [(a, m)]) l.length (by simp)
    rw [hfl.1] at hc0
    rw [hfl.2] at hc1
    simp only [List.getElem_append_right, Nat.le_refl, Nat.sub_self, List.getElem_singleton] at hc0 hc1
    clear hfl hs
    by_cases e : a + m = f
    · have e' : (((a : Int) + (m : Int)) == (f : Int)) = true := by rw [beq_iff_eq]; omega
      subst e
      rw [moreL_yes]
      go_enter Try.func29, Try.ntmps29
      go_wp2_with fail
      go_quiet (fail)
      have ho2 := own_below ho (below_drewN (Below.refl w.heap.size w) nq) (Nat.le_refl _)
      have hbel : Below base w (w.drewN nq) := below_drewN (Below.refl base w) nq
      have hc2 := ho2.cellAt (l.length * 2 + 1) (by omega)
      have hf2 := ho2.frozenAt (l.length * 2 + 1)
      rw [(flat_get (l ++ [(a, m)]) l.length (by simp)).2] at hc2
      simp only [List.getElem_append_right, Nat.le_refl, Nat.sub_self, List.getElem_singleton] at hc2
      have hkp : ∀ row, Keeps w (w.drewN nq) row := fun row => (Keeps.refl w row).below (below_drewN (Below.refl w.heap.size w) nq) (Nat.le_refl _)
      generalize w.drewN nq = w2 at *
      go_wp2_with fail
      go_region
      all_goals
        go_wp2_with fail
        go_ret
        have ho3 := ((ho2.stored (l.length * 2 + 1) (.int .u32 ((m + n : Nat) : Int))).1).drew
        rw [flat_set] at ho3
        refine ⟨_, rfl, by simpa using ho3, Below.drew (hbel.setCell hgb _), ?_, fun k hk => Or.inl hk⟩
        exact ((hkp (some g)).set ⟨g, l.length * 2 + 1, none⟩ rfl _).below (Below.drew (Below.refl _ _)) (hkp none).1
    · have e' : (((a : Int) + (m : Int)) == (f : Int)) = false := by rw [beq_eq_false_iff_ne]; omega
      rw [moreL_no _ _ _ _ _ e]
      go_enter Try.func29, Try.ntmps29
      go_wp2_with fail
      go_quiet (fail)
      have ho2 := own_below ho (below_drewN (Below.refl w.heap.size w) nq) (Nat.le_refl _)
      have hbel : Below base w (w.drewN nq) := below_drewN (Below.refl base w) nq
      have hkp : ∀ row, Keeps w (w.drewN nq) row := fun row => (Keeps.refl w row).below (below_drewN (Below.refl w.heap.size w) nq) (Nat.le_refl _)
      generalize w.drewN nq = w2 at *
      have hb2 := Nat.le_trans hb hbel.size
      go_wp2_with (at_builtin; refine wpList_append_lies _ rfl _ _ 36 rfl base 38 i0 _ 2 8 Try.underlying36 hi hz0 hz1 hz2 rfl (by decide) _ _ _ rfl (ho2.alloc _) _ 1 1 [.int .u32 (f : Int), .int .u32 (n : Int)] rfl rfl ?c1 ?c2 (by decide) ?c3 ?c4 ?c5 _ rfl ?_)
      case c1 => exact World.news_of_block (cs := #[.int .u32 (f : Int), .int .u32 (n : Int)]) (heap_alloc_new _ _)
      case c2 => exact two_int _ _
      case c3 => unfold maxLen; omega
      case c4 => omega
      case c5 => simp; omega
      intro gg cap w1 hown1 hgrow1 hat hlt1
      go_wp2_with fail
      go_ret
      refine ⟨_, rfl, ?_, ?_⟩
      · rw [show l ++ [(a, m), (f, n)] = (l ++ [(a, m)]) ++ [(f, n)] from by simp, flat_append, flat_one, List.length_append, hsz]
        exact hown1
      · refine ⟨(Below.alloc hbel hb2 _).grown hgrow1 (by simp; omega) (fun k hk => by have := (ho2.lt k hk).1; omega), ((hkp _).below ((Below.refl w2.heap.size w2).alloc (Nat.le_refl _) _) (hkp none).1).grown hgrow1, fun k hk => ?_⟩
        rcases hat with h | h
        · left; rw [h]; exact hk
        · right
          have hk' : gg = k := by simpa [Value.ownBlock] using hk
          have := (hkp none).1
          try simp at h
          omega

theorem lastL_yes (wh : Nat) (l : Rws) (n : Nat) (h : uWh (6 - n) = wh) : lastL wh l (n + 1) = moreL (lastL wh l n) (adr 255 (uFrom (6 - n))) (uEnd (6 - n) - uFrom (6 - n)) := if_pos h
theorem lastL_no (wh : Nat) (l : Rws) (n : Nat) (h : ¬ uWh (6 - n) = wh) : lastL wh l (n + 1) = lastL wh l n := if_neg h
set_option maxHeartbeats 4000000 in
theorem phLast_calls (l : Rws) (wh : Nat) (base : Nat) (v : Value) (w : World) (hwh : wh < 256) (hb : base ≤ w.heap.size) (hs : small 2097152 l) (hl : l.length < 500) (ho : Own2 w base v l) :
    Calls Try.prog 30 #[v, .int .u8 (wh : Int)] w fun e w' => ∃ v', e = .returned v' ∧ Own2 w' base v' (lastL wh l 7) ∧ Below base w w' := by
  have hlt := World.ownsRow.lt ho
  go_enter Try.func30, Try.ntmps30
  (go_wp2_with fail; refine Cl.m (phUnits_calls _) ?_; intro w1 hb1)
  have hb1s := hb1.size
  have ho1 : Own2 (w1.alloc (.cells unitsA 43)) base v l := (own_below ho hb1 (Nat.le_refl _)).alloc _
  have hk1 : Blk (w1.alloc (.cells unitsA 43)) w1.heap.size 43 unitsA := heap_alloc_new _ _
  have hbl1 : Below base w (w1.alloc (.cells unitsA 43)) := (hb1.mono hb).alloc (Nat.le_trans hb hb1s) _
  go_wp2_with (refine wpList_store_row rfl 43 _ _ rfl w1.heap.size unitsA rfl rfl 43 _ (heap_alloc_new _ _) (by kernel_rfl) rfl (by kernel_rfl) ?_; rw [setRow_new])
  go_loopw [0, 6, 7] (fun v i en wr => ∃ n : Nat, n ≤ 7 ∧ i = .int .i64 (6 - (n : Int)) ∧ Own2 wr base v (lastL wh l n) ∧ Blk wr w1.heap.size 43 unitsA ∧ some w1.heap.size ≠ v.ownBlock ∧ Below base w wr) (fun _ i _ _ => (intOf i + 1).toNat)
  case atStart => exact ⟨0, by omega, rfl, ho1, hk1, fun h => by have := (hlt w1.heap.size h.symm).2; omega, hbl1⟩
  case round =>
    obtain ⟨n, hn, rfl, hown, hblk, hne, hbel⟩ := hrel
    have hbz := Nat.le_trans hb hbel.size
    obtain ⟨hsm, hln⟩ : small 2097152 (lastL wh l n) ∧ (lastL wh l n).length ≤ l.length + n := by
      rcases lastL_small wh l hs n with h | h
      · exact h
      · omega
    have hn7 : n = 0 ∨ n = 1 ∨ n = 2 ∨ n = 3 ∨ n = 4 ∨ n = 5 ∨ n = 6 ∨ n = 7 := by omega
    rcases hn7 with rfl | rfl | rfl | rfl | rfl | rfl | rfl | rfl
    · have hcw : wr.cell? ⟨w1.heap.size, 13, none⟩ = some (.int .u8 3) := hblk.cell 13
      have hcf : wr.cell? ⟨w1.heap.size, 12, none⟩ = some (.int .u16 0) := hblk.cell 12
      have hce : wr.cell? ⟨w1.heap.size, 10, none⟩ = some (.int .u16 1024) := hblk.cell 10
      by_cases heq : uWh (6 - 0) = wh
      · have heq' : ((3 : Int) != (wh : Int)) = false := by rw [show (wh : Int) = 3 from by rw [← heq]; rfl]; rfl
        have hR := hide (lastL_yes wh l 0 heq)
        clear heq
        go_wp2_with fail
        go_region_law (first
          | (go_simp; go_at_call 8; refine Cl.p (phAddr_calls 255 0 _ (by omega) (by omega)) ?_)
          | (go_simp; go_at_call 29; rw [show IntKind.u32.wrap (IntKind.u16.wrap 1024) = ((1024 : Nat) : Int) from rfl]; refine (phMore_calls (lastL wh l 0) (adr 255 0) 1024 base _ wr.drew hbz (by decide) hsm (by omega) (World.ownsRow.drew hown)).mono ?_; rintro e w' ⟨v', rfl, hown2, hbel2, hkp2, hob2⟩))
        all_goals
          go_wp2_with fail
          go_roundw
          case rel => exact ⟨1, by omega, by go_num, by rw [hR.out]; exact hown2, hblk.drew.keeps hkp2 hne, fun h => by rcases hob2 w1.heap.size h.symm with h' | h'; exact hne h'.symm; have := hblk.lt; have : wr.drew.heap.size = wr.heap.size := rfl; omega, (Below.drew hbel).trans hbel2⟩
          case measure => simp [intOf]
      · have heq' : ((3 : Int) != (wh : Int)) = true := by rw [bne_iff_ne]; intro h; apply heq; show 3 = wh; omega
        have hR := hide (lastL_no wh l 0 heq)
        clear heq
        go_wp2_with fail
        go_roundw
        case rel => exact ⟨1, by omega, by go_num, by rw [hR.out]; exact hown, hblk, hne, hbel⟩
        case measure => simp [intOf]
    · have hcw : wr.cell? ⟨w1.heap.size, 11, none⟩ = some (.int .u8 4) := hblk.cell 11
      have hcf : wr.cell? ⟨w1.heap.size, 10, none⟩ = some (.int .u16 1024) := hblk.cell 10
      have hce : wr.cell? ⟨w1.heap.size, 8, none⟩ = some (.int .u16 2048) := hblk.cell 8
      by_cases heq : uWh (6 - 1) = wh
      · have heq' : ((4 : Int) != (wh : Int)) = false := by rw [show (wh : Int) = 4 from by rw [← heq]; rfl]; rfl
        have hR := hide (lastL_yes wh l 1 heq)
        clear heq
        go_wp2_with fail
        go_region_law (first
          | (go_simp; go_at_call 8; refine Cl.p (phAddr_calls 255 1024 _ (by omega) (by omega)) ?_)
          | (go_simp; go_at_call 29; rw [show IntKind.u32.wrap (IntKind.u16.wrap 1024) = ((1024 : Nat) : Int) from rfl]; refine (phMore_calls (lastL wh l 1) (adr 255 1024) 1024 base _ wr.drew hbz (by decide) hsm (by omega) (World.ownsRow.drew hown)).mono ?_; rintro e w' ⟨v', rfl, hown2, hbel2, hkp2, hob2⟩))
        all_goals
          go_wp2_with fail
          go_roundw
          case rel => exact ⟨2, by omega, by go_num, by rw [hR.out]; exact hown2, hblk.drew.keeps hkp2 hne, fun h => by rcases hob2 w1.heap.size h.symm with h' | h'; exact hne h'.symm; have := hblk.lt; have : wr.drew.heap.size = wr.heap.size := rfl; omega, (Below.drew hbel).trans hbel2⟩
          case measure => simp [intOf]
      · have heq' : ((4 : Int) != (wh : Int)) = true := by rw [bne_iff_ne]; intro h; apply heq; show 4 = wh; omega
        have hR := hide (lastL_no wh l 1 heq)
        clear heq
        go_wp2_with fail
        go_roundw
        case rel => exact ⟨2, by omega, by go_num, by rw [hR.out]; exact hown, hblk, hne, hbel⟩
        case measure => simp [intOf]
    · have hcw : wr.cell? ⟨w1.heap.size, 9, none⟩ = some (.int .u8 5) := hblk.cell 9
      have hcf : wr.cell? ⟨w1.heap.size, 8, none⟩ = some (.int .u16 2048) := hblk.cell 8
      have hce : wr.cell? ⟨w1.heap.size, 6, none⟩ = some (.int .u16 3072) := hblk.cell 6
      by_cases heq : uWh (6 - 2) = wh
      · have heq' : ((5 : Int) != (wh : Int)) = false := by rw [show (wh : Int) = 5 from by rw [← heq]; rfl]; rfl
        have hR := hide (lastL_yes wh l 2 heq)
        clear heq
        go_wp2_with fail
        go_region_law (first
          | (go_simp; go_at_call 8; refine Cl.p (phAddr_calls 255 2048 _ (by omega) (by omega)) ?_)
          | (go_simp; go_at_call 29; rw [show IntKind.u32.wrap (IntKind.u16.wrap 1024) = ((1024 : Nat) : Int) from rfl]; refine (phMore_calls (lastL wh l 2) (adr 255 2048) 1024 base _ wr.drew hbz (by decide) hsm (by omega) (World.ownsRow.drew hown)).mono ?_; rintro e w' ⟨v', rfl, hown2, hbel2, hkp2, hob2⟩))
        all_goals
          go_wp2_with fail
          go_roundw
          case rel => exact ⟨3, by omega, by go_num, by rw [hR.out]; exact hown2, hblk.drew.keeps hkp2 hne, fun h => by rcases hob2 w1.heap.size h.symm with h' | h'; exact hne h'.symm; have := hblk.lt; have : wr.drew.heap.size = wr.heap.size := rfl; omega, (Below.drew hbel).trans hbel2⟩
          case measure => simp [intOf]
      · have heq' : ((5 : Int) != (wh : Int)) = true := by rw [bne_iff_ne]; intro h; apply heq; show 5 = wh; omega
        have hR := hide (lastL_no wh l 2 heq)
        clear heq
        go_wp2_with fail
        go_roundw
        case rel => exact ⟨3, by omega, by go_num, by rw [hR.out]; exact hown, hblk, hne, hbel⟩
        case measure => simp [intOf]
    · have hcw : wr.cell? ⟨w1.heap.size, 7, none⟩ = some (.int .u8 6) := hblk.cell 7
      have hcf : wr.cell? ⟨w1.heap.size, 6, none⟩ = some (.int .u16 3072) := hblk.cell 6
      have hce : wr.cell? ⟨w1.heap.size, 4, none⟩ = some (.int .u16 4096) := hblk.cell 4
      by_cases heq : uWh (6 - 3) = wh
      · have heq' : ((6 : Int) != (wh : Int)) = false := by rw [show (wh : Int) = 6 from by rw [← heq]; rfl]; rfl
        have hR := hide (lastL_yes wh l 3 heq)
        clear heq
        go_wp2_with fail
        go_region_law (first
          | (go_simp; go_at_call 8; refine Cl.p (phAddr_calls 255 3072 _ (by omega) (by omega)) ?_)
          | (go_simp; go_at_call 29; rw [show IntKind.u32.wrap (IntKind.u16.wrap 1024) = ((1024 : Nat) : Int) from rfl]; refine (phMore_calls (lastL wh l 3) (adr 255 3072) 1024 base _ wr.drew hbz (by decide) hsm (by omega) (World.ownsRow.drew hown)).mono ?_; rintro e w' ⟨v', rfl, hown2, hbel2, hkp2, hob2⟩))
        all_goals
          go_wp2_with fail
          go_roundw
          case rel => exact ⟨4, by omega, by go_num, by rw [hR.out]; exact hown2, hblk.drew.keeps hkp2 hne, fun h => by rcases hob2 w1.heap.size h.symm with h' | h'; exact hne h'.symm; have := hblk.lt; have : wr.drew.heap.size = wr.heap.size := rfl; omega, (Below.drew hbel).trans hbel2⟩
          case measure => simp [intOf]
      · have heq' : ((6 : Int) != (wh : Int)) = true := by rw [bne_iff_ne]; intro h; apply heq; show 6 = wh; omega
        have hR := hide (lastL_no wh l 3 heq)
        clear heq
        go_wp2_with fail
        go_roundw
        case rel => exact ⟨4, by omega, by go_num, by rw [hR.out]; exact hown, hblk, hne, hbel⟩
        case measure => simp [intOf]
    · have hcw : wr.cell? ⟨w1.heap.size, 5, none⟩ = some (.int .u8 7) := hblk.cell 5
      have hcf : wr.cell? ⟨w1.heap.size, 4, none⟩ = some (.int .u16 4096) := hblk.cell 4
      have hce : wr.cell? ⟨w1.heap.size, 2, none⟩ = some (.int .u16 5120) := hblk.cell 2
      by_cases heq : uWh (6 - 4) = wh
      · have heq' : ((7 : Int) != (wh : Int)) = false := by rw [show (wh : Int) = 7 from by rw [← heq]; rfl]; rfl
        have hR := hide (lastL_yes wh l 4 heq)
        clear heq
        go_wp2_with fail
        go_region_law (first
          | (go_simp; go_at_call 8; refine Cl.p (phAddr_calls 255 4096 _ (by omega) (by omega)) ?_)
          | (go_simp; go_at_call 29; rw [show IntKind.u32.wrap (IntKind.u16.wrap 1024) = ((1024 : Nat) : Int) from rfl]; refine (phMore_calls (lastL wh l 4) (adr 255 4096) 1024 base _ wr.drew hbz (by decide) hsm (by omega) (World.ownsRow.drew hown)).mono ?_; rintro e w' ⟨v', rfl, hown2, hbel2, hkp2, hob2⟩))
        all_goals
          go_wp2_with fail
          go_roundw
          case rel => exact ⟨5, by omega, by go_num, by rw [hR.out]; exact hown2, hblk.drew.keeps hkp2 hne, fun h => by rcases hob2 w1.heap.size h.symm with h' | h'; exact hne h'.symm; have := hblk.lt; have : wr.drew.heap.size = wr.heap.size := rfl; omega, (Below.drew hbel).trans hbel2⟩
          case measure => simp [intOf]
      · have heq' : ((7 : Int) != (wh : Int)) = true := by rw [bne_iff_ne]; intro h; apply heq; show 7 = wh; omega
        have hR := hide (lastL_no wh l 4 heq)
        clear heq
        go_wp2_with fail
        go_roundw
        case rel => exact ⟨5, by omega, by go_num, by rw [hR.out]; exact hown, hblk, hne, hbel⟩
        case measure => simp [intOf]
    · have hcw : wr.cell? ⟨w1.heap.size, 3, none⟩ = some (.int .u8 8) := hblk.cell 3
      have hcf : wr.cell? ⟨w1.heap.size, 2, none⟩ = some (.int .u16 5120) := hblk.cell 2
      have hce : wr.cell? ⟨w1.heap.size, 0, none⟩ = some (.int .u16 6144) := hblk.cell 0
      by_cases heq : uWh (6 - 5) = wh
      · have heq' : ((8 : Int) != (wh : Int)) = false := by rw [show (wh : Int) = 8 from by rw [← heq]; rfl]; rfl
        have hR := hide (lastL_yes wh l 5 heq)
        clear heq
        go_wp2_with fail
        go_region_law (first
          | (go_simp; go_at_call 8; refine Cl.p (phAddr_calls 255 5120 _ (by omega) (by omega)) ?_)
          | (go_simp; go_at_call 29; rw [show IntKind.u32.wrap (IntKind.u16.wrap 1024) = ((1024 : Nat) : Int) from rfl]; refine (phMore_calls (lastL wh l 5) (adr 255 5120) 1024 base _ wr.drew hbz (by decide) hsm (by omega) (World.ownsRow.drew hown)).mono ?_; rintro e w' ⟨v', rfl, hown2, hbel2, hkp2, hob2⟩))
        all_goals
          go_wp2_with fail
          go_roundw
          case rel => exact ⟨6, by omega, by go_num, by rw [hR.out]; exact hown2, hblk.drew.keeps hkp2 hne, fun h => by rcases hob2 w1.heap.size h.symm with h' | h'; exact hne h'.symm; have := hblk.lt; have : wr.drew.heap.size = wr.heap.size := rfl; omega, (Below.drew hbel).trans hbel2⟩
          case measure => simp [intOf]
      · have heq' : ((8 : Int) != (wh : Int)) = true := by rw [bne_iff_ne]; intro h; apply heq; show 8 = wh; omega
        have hR := hide (lastL_no wh l 5 heq)
        clear heq
        go_wp2_with fail
        go_roundw
        case rel => exact ⟨6, by omega, by go_num, by rw [hR.out]; exact hown, hblk, hne, hbel⟩
        case measure => simp [intOf]
    · have hcw : wr.cell? ⟨w1.heap.size, 1, none⟩ = some (.int .u8 2) := hblk.cell 1
      have hcf : wr.cell? ⟨w1.heap.size, 0, none⟩ = some (.int .u16 6144) := hblk.cell 0
      by_cases heq : uWh (6 - 6) = wh
      · have heq' : ((2 : Int) != (wh : Int)) = false := by rw [show (wh : Int) = 2 from by rw [← heq]; rfl]; rfl
        have hR := hide (lastL_yes wh l 6 heq)
        clear heq
        go_wp2_with fail
        go_region_law (first
          | (go_simp; go_at_call 8; refine Cl.p (phAddr_calls 255 6144 _ (by omega) (by omega)) ?_)
          | (go_simp; go_at_call 29; rw [show IntKind.u32.wrap (IntKind.u16.wrap 2048) = ((2048 : Nat) : Int) from rfl]; refine (phMore_calls (lastL wh l 6) (adr 255 6144) 2048 base _ wr.drew hbz (by decide) hsm (by omega) (World.ownsRow.drew hown)).mono ?_; rintro e w' ⟨v', rfl, hown2, hbel2, hkp2, hob2⟩))
        all_goals
          go_wp2_with fail
          go_roundw
          case rel => exact ⟨7, by omega, by go_num, by rw [hR.out]; exact hown2, hblk.drew.keeps hkp2 hne, fun h => by rcases hob2 w1.heap.size h.symm with h' | h'; exact hne h'.symm; have := hblk.lt; have : wr.drew.heap.size = wr.heap.size := rfl; omega, (Below.drew hbel).trans hbel2⟩
          case measure => simp [intOf]
      · have heq' : ((2 : Int) != (wh : Int)) = true := by rw [bne_iff_ne]; intro h; apply heq; show 2 = wh; omega
        have hR := hide (lastL_no wh l 6 heq)
        clear heq
        go_wp2_with fail
        go_roundw
        case rel => exact ⟨7, by omega, by go_num, by rw [hR.out]; exact hown, hblk, hne, hbel⟩
        case measure => simp [intOf]
    · go_wp2_with fail
      go_ret
      exact ⟨_, rfl, hown, hbel⟩
end Go.Proofs.Ytmjgkkjlgkkddaa
