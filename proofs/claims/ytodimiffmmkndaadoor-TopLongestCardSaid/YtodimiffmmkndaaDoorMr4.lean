/-
  Package micro: Read.
-/
import Derived.Test.YtodimiffmmkndaaDoorMr3
import Derived.ScopeJumps
import Derived.WalkMore
namespace Go.Proofs.YtodimiffmmkndaaDoor
set_option linter.unusedSimpArgs false
set_option linter.unusedVariables false
set_option maxRecDepth 10000
open Go.RowKit Go.Shelf Pl
theorem infoO : (Tryd.prog.info? 39).map (fun i => (i.zero, i.size, i.bytes)) = some (some (.agg #[.int .u8 0, .int .u8 0, .int .u8 0, .bool false]), 4, 4) := by kernel_rfl
theorem own1_lt' {w : World} {base n size g : Nat} {e : TypeId} {v : Value} {xs : List Value} (h : w.ownsRow base e size v n xs) (hg : v.ownBlock = some g) : g < w.heap.size := own1_lt h hg
theorem own1_keep' {w w' : World} {base n size : Nat} {e : TypeId} {v : Value} {xs : List Value} (h : w.ownsRow base e size v n xs) (hk : ∀ g, v.ownBlock = some g → w'.heap[g]? = w.heap[g]?) : w'.ownsRow base e size v n xs := own1_keep h hk
theorem own1_ne4 {w : World} {base n size g : Nat} {e t : TypeId} {v : Value} {xs : List Value} {cs : Array Value} (h : w.ownsRow base e size v n xs) (hb : Blk w g t cs) (he : e ≠ t) : some g ≠ v.ownBlock := own1_ne h hb he
/-- A scope with one label: what holds there, and what a pass from it does. -/
theorem wp_scope_label {P : Program} {a : Act} {w : World} {Q : Exit → Act → World → Prop} {c rest : Code} (l : Nat) (J : Act → World → Prop) (μ : Act → World → Nat) (hf : findLabel c l = some (Code.seq .skip rest))
    (pass : ∀ a w, J a w → rest.wp P (Exit.jump l (fun a' w' => J a' w' ∧ μ a' w' < μ a w) Q) a w)
    (first : (∀ a w, J a w → rest.wp P (Exit.jump l J Q) a w) → c.wp P (Exit.jump l J Q) a w) : (Code.scope c).wp P Q a w :=
  wp_scope_jumps l J μ hf (first fun a w h => wp_mono (pass a w h) fun e a' w' hq => by
    cases e with
    | goto l' => exact ⟨hq.1, hq.2.1⟩
    | _ => exact hq) fun a w h => wp_seq (wp_skip (pass a w h))
theorem cut_calls (S : ByteArray) (x : OpM) (r : List OpM) (M : Int) (w : World) (hS : S.data.toList = TX (x :: r)) (hs : S.size ≤ 1000) (hx : okS x = true) (hM : w.cell? ⟨0, 0, none⟩ = some (.int .i64 M)) :
    Calls Tryd.prog 18 #[.string S, .string ⟨#[32]⟩] w fun e w' => e = .returned (.tuple #[.string ⟨(tx x).toArray⟩, .string ⟨(TX r).toArray⟩, .bool (!r.isEmpty)]) ∧ Below w.heap.size w w' := by
  refine (Tryd.strings_Cut S ⟨#[32]⟩ M w (by omega) hM).mono ?_
  rintro e w' ⟨rfl, n, rfl⟩
  have hc : Lib.cut S.data.toList (⟨#[32]⟩ : ByteArray).data.toList = (tx x, TX r, !r.isEmpty) := by rw [hS]; exact cutTX x r hx
  rw [hc]
  exact ⟨rfl, below_drewN (Below.refl _ _) n⟩
set_option maxRecDepth 100000 in
set_option maxHeartbeats 8000000 in
theorem read_calls (L : List OpM) (M : Int) (w : World) (hL : 0 < L.length) (hn : L.length ≤ 30) (hok : ∀ x ∈ L, okS x = true) (hM : w.cell? ⟨0, 0, none⟩ = some (.int .i64 M)) :
    Calls Tryd.prog 9 #[.string ⟨(TX L).toArray⟩] w fun e w' => ∃ v, e = .returned (.tuple #[v, .agg #[Value.int .i64 0, Value.int .i64 0]]) ∧ w'.ownsRow w.heap.size 39 4 v L.length (flO L) ∧ Below w.heap.size w w' := by
  obtain ⟨i0, hi, hz0, hz1, hz2⟩ := info_parts infoO
  have hSs : (⟨(TX L).toArray⟩ : ByteArray).size = 5 * L.length - 1 := (bs_size _).trans (TX_len L)
  have hSd : (⟨(TX L).toArray⟩ : ByteArray).data.toList = TX L := rfl
  generalize (⟨(TX L).toArray⟩ : ByteArray) = S at *
  go_enter Tryd.func9, Tryd.ntmps9
  go_wp2_with fail
  refine wp_scope_label 0 (fun a' w' => ∃ (i : Nat) (v u1 u6 u7 u8 u9 u10 u11 u12 u13 u14 u15 u16 u17 u18 u19 u20 u21 u22 u23 u24 u25 u26 u27 u28 u29 u30 u31 u32 u33 u34 u35 u36 u37 u38 u39 u40 u41 u42 : Value), a' = { tmps := #[.string S, u1, .slice none 0 0, .pointer (some ⟨w.heap.size, 0, none⟩), v, .int .i64 ((5 * i : Nat) : Int), u6, u7, u8, u9, u10, u11, u12, u13, u14, u15, u16, u17, u18, u19, u20, u21, u22, u23, u24, u25, u26, u27, u28, u29, u30, u31, u32, u33, u34, u35, u36, u37, u38, u39, u40, u41, u42], defers := [] } ∧ i < L.length ∧ w'.ownsRow w.heap.size 39 4 v i (flO (L.take i)) ∧ Blk w' w.heap.size 34 #[Value.int .i64 0, Value.int .i64 0] ∧ Below w.heap.size w w') (fun a' _ => 200 - (intOf (a'.tmps.getD 5 undef)).toNat) rfl ?_ ?_
  · rintro a' w1 ⟨i, v, u1, u6, u7, u8, u9, u10, u11, u12, u13, u14, u15, u16, u17, u18, u19, u20, u21, u22, u23, u24, u25, u26, u27, u28, u29, u30, u31, u32, u33, u34, u35, u36, u37, u38, u39, u40, u41, u42, rfl, hin, hown, hF, hb⟩
    obtain ⟨x, r, hdr⟩ : ∃ x r, L.drop i = x :: r := by
      cases h : L.drop i with
      | nil => have := congrArg List.length h; rw [List.length_drop, List.length_nil] at this; omega
      | cons x r => exact ⟨x, r, rfl⟩
    have hLi : L[i]? = some x := by
      have := congrArg (fun l : List OpM => l[0]?) hdr
      simpa using this
    have hx : okS x = true := hok x (List.mem_of_getElem? hLi)
    have hxO : okO x.1 x.2.1 x.2.2.1 = true := by
      unfold okS at hx
      exact (Bool.and_eq_true_iff.1 hx).1
    have htk : L.take (i + 1) = L.take i ++ [x] := by rw [List.take_add_one, hLi]; rfl
    have hrl : r.length + 1 = L.length - i := by
      have := congrArg List.length hdr
      rw [List.length_drop, List.length_cons] at this
      omega
    have hSd2 : (S.extract (5 * i) S.size).data.toList = TX (x :: r) := by
      rw [Lib.extract_to_end, hSd, TX_drop, hdr]
    have hM1 := (hb.cell (p := ⟨0, 0, none⟩) (cell_lt hM)).trans hM
    have hes : (S.extract (5 * i) S.size).size ≤ 1000 := by
      rw [ByteArray.size_extract]
      omega
    have hcut := cut_calls (S.extract (5 * i) S.size) x r M w1 hSd2 hes hx hM1
    have hone : ∀ W, Calls Tryd.prog 19 #[.string ⟨(txO x.1 x.2.1 x.2.2.1 x.2.2.2).toArray⟩] W fun e w' => e = .returned (.tuple #[.agg #[Value.int .u8 (x.1.toNat : Int), Value.int .u8 (x.2.1.toNat : Int), Value.int .u8 (x.2.2.1.toNat : Int), Value.bool x.2.2.2], .bool true]) ∧ Below W.heap.size W w' := fun W => oneO_calls x.1 x.2.1 x.2.2.1 x.2.2.2 W hxO
    have hkl := TX_len r
    have hE : Hid (flO (L.take i) ++ (va x).toList = flO (L.take (i + 1))) := by show _ = _; rw [htk, flO_snoc]
    have hva : va x = #[Value.int .u8 (x.1.toNat : Int), Value.int .u8 (x.2.1.toNat : Int), Value.int .u8 (x.2.2.1.toNat : Int), Value.bool x.2.2.2] := rfl
    have htx : tx x = txO x.1 x.2.1 x.2.2.1 x.2.2.2 := rfl
    rw [htx] at hcut
    obtain ⟨m, hm, hmn⟩ : ∃ m, S.size = m ∧ m + 1 = 5 * L.length := ⟨S.size, rfl, by omega⟩
    obtain ⟨k, hk⟩ : ∃ k, (TX r).length = k := ⟨_, rfl⟩
    have hpi : 5 * i ≤ m := by omega
    clear hes hSd2 hM1 hdr hLi htk hSs hx htx hSd
    rw [hm] at hcut
    rw [hk] at hkl
    have hi5 : Hid (∀ h : r ≠ [], (m : Int) - (k : Int) = ((5 * (i + 1) : Nat) : Int)) := by
      show ∀ _, _
      intro h
      have : 0 < r.length := List.length_pos_iff.2 h
      omega
    have hbase := hb.size
    obtain ⟨p, hp⟩ : ∃ p, 5 * i = p := ⟨_, rfl⟩
    rw [hp] at hcut hpi ⊢
    have p1 : (p : Int) ≤ (m : Int) := by omega
    clear hok hM hL
    go_wp2_with fail
    refine Cl.m hcut ?_
    intro w2 hb2
    clear hcut
    have hF2 := hF.below hb2 hF.lt
    have hown2 := own1_keep' hown fun g hg => hb2.block g (own1_lt' hown hg)
    have hb02 := hb.trans (hb2.mono hbase)
    clear hF hown hb hb2 hbase
    go_wp2_with fail
    refine Cl.m (hone _) ?_
    intro w3 hb3
    have hF3 := hF2.below hb3 hF2.lt
    have hown3 := own1_keep' hown2 fun g hg => hb3.block g (own1_lt' hown2 hg)
    have hb03 := hb02.trans (hb3.mono hb02.size)
    clear hF2 hown2 hb02 hb3 hone
    have hX3 : Blk (w3.alloc (.cells #[Value.int .u8 (x.1.toNat : Int), Value.int .u8 (x.2.1.toNat : Int), Value.int .u8 (x.2.2.1.toNat : Int), Value.bool x.2.2.2] 39)) w3.heap.size 39 #[Value.int .u8 (x.1.toNat : Int), Value.int .u8 (x.2.1.toNat : Int), Value.int .u8 (x.2.2.1.toNat : Int), Value.bool x.2.2.2] := Blk.new _ _ _
    have hF4 := (hF3.alloc (.cells #[Value.int .u8 (x.1.toNat : Int), Value.int .u8 (x.2.1.toNat : Int), Value.int .u8 (x.2.2.1.toNat : Int), Value.bool x.2.2.2] 39)).alloc (.cells #[Value.int .u8 (x.1.toNat : Int), Value.int .u8 (x.2.1.toNat : Int), Value.int .u8 (x.2.2.1.toNat : Int), Value.bool x.2.2.2] 39)
    have hX4 : Blk ((w3.alloc (.cells #[Value.int .u8 (x.1.toNat : Int), Value.int .u8 (x.2.1.toNat : Int), Value.int .u8 (x.2.2.1.toNat : Int), Value.bool x.2.2.2] 39)).alloc (.cells #[Value.int .u8 (x.1.toNat : Int), Value.int .u8 (x.2.1.toNat : Int), Value.int .u8 (x.2.2.1.toNat : Int), Value.bool x.2.2.2] 39)) (w3.heap.size + 1) 39 #[Value.int .u8 (x.1.toNat : Int), Value.int .u8 (x.2.1.toNat : Int), Value.int .u8 (x.2.2.1.toNat : Int), Value.bool x.2.2.2] := by
      have h := Blk.new (w3.alloc (.cells #[Value.int .u8 (x.1.toNat : Int), Value.int .u8 (x.2.1.toNat : Int), Value.int .u8 (x.2.2.1.toNat : Int), Value.bool x.2.2.2] 39)) 39 #[Value.int .u8 (x.1.toNat : Int), Value.int .u8 (x.2.1.toNat : Int), Value.int .u8 (x.2.2.1.toNat : Int), Value.bool x.2.2.2]
      rwa [show (w3.alloc (.cells #[Value.int .u8 (x.1.toNat : Int), Value.int .u8 (x.2.1.toNat : Int), Value.int .u8 (x.2.2.1.toNat : Int), Value.bool x.2.2.2] 39)).heap.size = w3.heap.size + 1 by simp] at h
    have hown4 := (World.ownsRow.alloc (World.ownsRow.alloc hown3 (.cells #[Value.int .u8 (x.1.toNat : Int), Value.int .u8 (x.2.1.toNat : Int), Value.int .u8 (x.2.2.1.toNat : Int), Value.bool x.2.2.2] 39)) (.cells #[Value.int .u8 (x.1.toNat : Int), Value.int .u8 (x.2.1.toNat : Int), Value.int .u8 (x.2.2.1.toNat : Int), Value.bool x.2.2.2] 39))
    have hb04 : Below w.heap.size w ((w3.alloc (.cells #[Value.int .u8 (x.1.toNat : Int), Value.int .u8 (x.2.1.toNat : Int), Value.int .u8 (x.2.2.1.toNat : Int), Value.bool x.2.2.2] 39)).alloc (.cells #[Value.int .u8 (x.1.toNat : Int), Value.int .u8 (x.2.1.toNat : Int), Value.int .u8 (x.2.2.1.toNat : Int), Value.bool x.2.2.2] 39)) := Bl.alloc (Bl.alloc hb03 _) _
    have hFne := own1_ne4 hown4 hF4 (show 39 ≠ 34 by decide)
    have hlt4 := hF4.lt
    clear hown3 hF3 hb03
    go_wp2_with (first | (at_builtin; refine Shut.out ?_) | (refine wpList_load_row rfl 39 _ rfl w3.heap.size rfl _ #[Value.int .u8 (x.1.toNat : Int), Value.int .u8 (x.2.1.toNat : Int), Value.int .u8 (x.2.2.1.toNat : Int), Value.bool x.2.2.2] (0, 0) _ hX3 Tryd.underlying39 rfl (by kernel_rfl) ?_))
    unfold Shut
    generalize (w3.alloc (.cells #[Value.int .u8 (x.1.toNat : Int), Value.int .u8 (x.2.1.toNat : Int), Value.int .u8 (x.2.2.1.toNat : Int), Value.bool x.2.2.2] 39)).alloc (.cells #[Value.int .u8 (x.1.toNat : Int), Value.int .u8 (x.2.1.toNat : Int), Value.int .u8 (x.2.2.1.toNat : Int), Value.bool x.2.2.2] 39) = w4 at *
    have hs4 := hb04.size
    refine wpList_append_lies _ rfl (.tmp 31) (.tmp 33) 23 rfl w.heap.size 39 i0 _ 4 4 Tryd.underlying23 hi hz0 hz1 hz2 rfl (by decide) v i (flO (L.take i)) rfl hown4 ⟨w3.heap.size + 1, 0, none⟩ 1 1 [Value.int .u8 (x.1.toNat : Int), Value.int .u8 (x.2.1.toNat : Int), Value.int .u8 (x.2.2.1.toNat : Int), Value.bool x.2.2.2] rfl rfl (World.news_of_block (cs := #[Value.int .u8 (x.1.toNat : Int), Value.int .u8 (x.2.1.toNat : Int), Value.int .u8 (x.2.2.1.toNat : Int), Value.bool x.2.2.2]) (t := 39) (fr := (0, 0)) hX4) (by simp [Value.oneCell']) (by omega) (by unfold maxLen; omega) (by omega) hs4 _ rfl ?_
    intro gg cap w5 hown5 hgrow5 hat5 hlt5
    have hE' : flO (L.take i) ++ [Value.int .u8 (x.1.toNat : Int), Value.int .u8 (x.2.1.toNat : Int), Value.int .u8 (x.2.2.1.toNat : Int), Value.bool x.2.2.2] = flO (L.take (i + 1)) := hE.out
    rw [hE'] at hown5
    have hF5 := hF4.grown hgrow5 hFne
    have hb05 : Below w.heap.size w w5 := hb04.grown hgrow5 hs4 (fun k hk => (own1_blk hown4 hk).1)
    clear hE hE' hown4 hgrow5 hat5 hlt5 hF4 hX4 hX3 hb04 hFne hlt4 hs4
    cases r with
    | nil =>
      have hLe : L.take (i + 1) = L := List.take_of_length_le (by simp only [List.length_nil] at hrl; omega)
      have hLn : i + 1 = L.length := by simp only [List.length_nil] at hrl; omega
      have HL := hide hLe
      have HN := hide hLn
      clear hLe hLn hrl hi5 hkl
      go_wp2_with (refine wpList_store_row rfl 34 _ _ rfl w.heap.size #[Value.int .i64 0, Value.int .i64 0] rfl rfl 34 _ hF5 (by kernel_rfl) rfl (by kernel_rfl) ?_; rw [setRow_same hF5])
      simp only [Exit.jump]
      refine bodyPost_ret (results_tc rfl rfl hF5 Tryd.underlying34 rfl (by kernel_rfl)) rfl ⟨_, rfl, ?_, hb05⟩
      rw [HL.out, HN.out] at hown5
      rw [← HN.out]
      rw [← HN.out] at hown5
      exact hown5
    | cons y r =>
      have e5 := hi5.out (by simp)
      obtain ⟨p', hp'⟩ : ∃ p', 5 * (i + 1) = p' := ⟨_, rfl⟩
      rw [hp'] at e5
      have hps : p < p' := by omega
      have hps2 : p' ≤ 150 := by simp only [List.length_cons] at hrl; omega
      have hin1 : i + 1 < L.length := by simp only [List.length_cons] at hrl; omega
      have HP := hide hp'
      have HQ := hide hp
      clear hp' hp hi5 hkl hrl
      go_wp2_with fail
      go_step3
      refine ⟨rfl, ?_, ?_⟩
      · rw [← HP.out]
        exact ⟨i + 1, _, _, _, _, _, _, _, _, _, _, _, _, _, _, _, _, _, _, _, _, _, _, _, _, _, _, _, _, _, _, _, _, _, _, _, _, _, _, _, rfl, hin1, hown5, hF5, hb05⟩
      · show 200 - (intOf (.int .i64 (p' : Int))).toNat < 200 - (intOf (.int .i64 (p : Int))).toNat
        simp [intOf]
        omega
  · intro pass
    have hF : Blk (w.alloc (.cells #[Value.int .i64 0, Value.int .i64 0] 34)) w.heap.size 34 #[Value.int .i64 0, Value.int .i64 0] := Blk.new _ _ _
    have hb : Below w.heap.size w (w.alloc (.cells #[Value.int .i64 0, Value.int .i64 0] 34)) := Bl.alloc (Below.refl _ _) _
    have hSe : (S.toList == []) = false := by
      rw [ByteArray.toList_eq, hSd, beq_eq_false_iff_ne]
      intro e
      have := TX_len L
      rw [e, List.length_nil] at this
      omega
    go_wp2_with fail
    go_step3
    rename_i Qx Kx hK
    exact hK _ _ (pass _ _ ⟨0, .slice none 0 0, undef, undef, undef, undef, undef, undef, .string S, .bool false, undef, undef, undef, undef, undef, undef, undef, undef, undef, undef, undef, undef, undef, undef, undef, undef, undef, undef, undef, undef, undef, undef, undef, undef, undef, undef, undef, undef, undef, undef, rfl, hL, World.ownsRow_nil _ _ _ _, hF, hb⟩)
end Go.Proofs.YtodimiffmmkndaaDoor
