/-
  The texts Sc13 of the proofs about scripts, as one file (they are merged by a program).
-/
import Derived.Test.YtdhdknjefjolpaaDoorA4
section
/-
  slices.DeleteFunc of edges: the walk.
-/
namespace Go.Proofs.YtdhdknjefjolpaaDoor
set_option linter.unusedSimpArgs false
set_option linter.unusedVariables false
set_option maxRecDepth 10000
open Go.RowKit Go.Shelf Pl
theorem own_edges {w : World} {base n g cap : Nat} {St : Nat → Int} {Ln : Nat → Nat} {Up : Nat → Bool} (h : w.ownsRow base 31 3 (.slice (some ⟨g, 0, none⟩) n cap) n (edL St Ln Up n)) : EdgB w (some ⟨g, 0, none⟩) n St Ln Up w.heap.size := fun i hi => by
  have r := own_range h hi
  exact ⟨g, 0, rfl, own1_lt h rfl, by rw [Nat.zero_add]; exact r 0 _ rfl, by rw [Nat.zero_add]; exact r 1 _ rfl, by rw [Nat.zero_add]; exact r 2 _ rfl⟩
theorem own_only {S : Nat → Prop} {w w' : World} {base n size : Nat} {e : TypeId} {v : Value} {xs : List Value} (h : w.ownsRow base e size v n xs) (ho : Only S w w') (hs : ∀ g, v.ownBlock = some g → ¬ S g) : w'.ownsRow base e size v n xs :=
  own1_keep h fun g hg => ho.block g (own1_lt h hg) (hs g hg)
set_option maxRecDepth 100000 in
set_option maxHeartbeats 8000000 in
theorem edDelete_calls (g n cap q base : Nat) (t : Int) (St : Nat → Int) (Ln : Nat → Nat) (Up : Nat → Bool) (w : World) (hn : n ≤ 8796093021952) (hown : w.ownsRow base 31 3 (.slice (some ⟨g, 0, none⟩) n cap) n (edL St Ln Up n)) (hq : w.cell? ⟨q, 0, none⟩ = some (.int .i64 t)) (hqg : q ≠ g) :
    Calls Tryd.prog 21 #[.slice (some ⟨g, 0, none⟩) n cap, .func (.func 23) #[] #[.pointer (some ⟨q, 0, none⟩)]] w
      fun e w' => e = .returned (.slice (some ⟨g, 0, none⟩) (kp t St n).length cap) ∧ w'.ownsRow base 31 3 (.slice (some ⟨g, 0, none⟩) (kp t St n).length cap) (kp t St n).length (edL (fun x => St (kpF t St n x)) (fun x => Ln (kpF t St n x)) (fun x => Up (kpF t St n x)) (kp t St n).length) ∧ Only (fun k => k = g) w w' := by
  have hE := own_edges hown
  have hgl := own1_lt hown (g := g) rfl
  have hcap : n ≤ cap ∧ cap ≤ 9223372036854775807 := by
    obtain ⟨_, h | ⟨_, _, _, hv, _, _, h1, h2, _⟩⟩ := hown
    · cases h.1
    · cases hv; exact ⟨h1, h2⟩
  have hix := edIndex_calls (some ⟨g, 0, none⟩) n cap q t St Ln Up w (by unfold maxLen; omega) hE hq
  have HO := hide hown
  have HQ := hide hq
  clear hown hE hq
  go_enter Tryd.func21, Tryd.ntmps21
  go_wp2_with fail
  refine hix.mono ?_
  clear hix
  rintro e w1 (⟨k, hk, hk1, hk2, rfl, hb1⟩ | ⟨hall, rfl, hb1⟩)
  · have hlen : (kp t St (k + 1)).length = k := by
      rw [kp_snoc, if_pos hk1, List.append_nil, kp_all t St k (fun j hj => by have := hk2 j hj; omega), List.length_range]
    have hkz : ((k : Int) == -1) = false := by rw [beq_eq_false_iff_ne]; omega
    have H0 : Hid (∃ M : Nat → Nat, w1.ownsRow base 31 3 (.slice (some ⟨g, 0, none⟩) n cap) n (edL (fun x => St (M x)) (fun x => Ln (M x)) (fun x => Up (M x)) n) ∧ (∀ x, x < (kp t St (k + 1)).length → M x = kpF t St (k + 1) x) ∧ ∀ x, k + 1 ≤ x → M x = x) := by
      refine ⟨fun x => x, own_only (S := fun _ => False) HO.out (Only.of hb1) (fun _ _ h => h), fun x hx => ?_, fun _ _ => rfl⟩
      unfold kpF
      rw [kp_snoc, if_pos hk1, List.append_nil, kp_all t St k (fun j hj => by have := hk2 j hj; omega)]
      rw [hlen] at hx
      simp [hx]
    have HO1 : Hid (Only (fun k => k = g) w w1) := (Only.of hb1)
    have HK := hide hk1
    have HK2 := hide hk2
    clear hk1 hk2 hb1
    go_wp2_with fail
    go_loopw [5, 6] (fun v5 v6 wr => ∃ (i j : Nat) (M : Nat → Nat), i ≤ n ∧ k < i ∧ v6 = .int .i64 (i : Int) ∧ v5 = .int .i64 (j : Int) ∧ j = (kp t St i).length ∧ j < i ∧ Hid (wr.ownsRow base 31 3 (.slice (some ⟨g, 0, none⟩) n cap) n (edL (fun x => St (M x)) (fun x => Ln (M x)) (fun x => Up (M x)) n) ∧ (∀ x, x < j → M x = kpF t St i x) ∧ (∀ x, i ≤ x → M x = x) ∧ Only (fun k => k = g) w wr)) (fun _ v6 _ => n - (intOf v6).toNat)
    case atStart =>
      obtain ⟨M, h1, h2, h3⟩ := H0.out
      refine ⟨k + 1, k, M, by omega, by omega, by go_num, rfl, hlen.symm, by omega, h1, fun x hx => h2 x (by omega), h3, HO1.out⟩
    case round =>
      obtain ⟨i, j, M, hi, hki, rfl, rfl, hj, hji, HH⟩ := hrel
      rcases Nat.lt_or_ge i n with hlt | hge
      · obtain ⟨h1, h2, h3, h4⟩ := HH.out
        have k1 : (i : Int) < (n : Int) := by omega
        have hr := own_range h1 hlt
        have hth := own_there (o := j * 3) (m := 3) h1 (by omega)
        rw [show edR (fun x => St (M x)) (fun x => Ln (M x)) (fun x => Up (M x)) i = edR St Ln Up i by simp [edR, h3 i (Nat.le_refl _)]] at hr
        unfold edR at hr
        have hqr : wr.cell? ⟨q, 0, none⟩ = some (.int .i64 t) := (World.cell?_of_block (h4.block q (cell_lt HQ.out) hqg)).trans HQ.out
        have hX : Blk (wr.alloc (.cells #[.int .i64 (St i), .int .u8 (Ln i : Int), .bool (Up i)] 31)) wr.heap.size 31 #[.int .i64 (St i), .int .u8 (Ln i : Int), .bool (Up i)] := Blk.new _ _ _
        have hu := until1_calls (St i) t (Ln i) (Up i) q (wr.alloc (.cells #[.int .i64 (St i), .int .u8 (Ln i : Int), .bool (Up i)] 31)) (((Bl.alloc (Below.refl wr.heap.size wr) (.cells #[.int .i64 (St i), .int .u8 (Ln i : Int), .bool (Up i)] 31)).cell (cell_lt hqr)).trans hqr)
        have hgw : wr.heap.size ≠ g := fun e => by have := h4.size; omega
        have HJ := hide hj
        have HX := hide hX
        have HT := hide hth
        have sR := setRow_new wr #[.int .i64 0, .int .u8 0, .bool false] #[.int .i64 (St i), .int .u8 (Ln i : Int), .bool (Up i)] 31
        have hZ : Blk (wr.alloc (.cells #[.int .i64 0, .int .u8 0, .bool false] 31)) wr.heap.size 31 #[.int .i64 0, .int .u8 0, .bool false] := Blk.new _ _ _
        clear h1 h2 h3 h4 hqr hj hth
        go_wp2_with (first | (refine wpList_load_mid rfl 31 _ rfl g (i * 3) rfl [Value.int .i64 (St i), Value.int .u8 (Ln i : Int), Value.bool (Up i)] _ hr Tryd.underlying31 rfl (by kernel_rfl) ?_) | (refine wpList_store_row rfl 31 _ _ rfl wr.heap.size #[.int .i64 (St i), .int .u8 (Ln i : Int), .bool (Up i)] rfl rfl 31 _ hZ (by kernel_rfl) rfl (by kernel_rfl) ?_; rw [sR]) | (refine wpList_load_row rfl 31 _ rfl wr.heap.size rfl _ #[.int .i64 (St i), .int .u8 (Ln i : Int), .bool (Up i)] (0, 0) _ hX Tryd.underlying31 rfl (by kernel_rfl) ?_))
        clear hr hX hZ sR
        have hO2 : Hid (Only (fun k => k = g) w ((wr.alloc (.cells #[.int .i64 (St i), .int .u8 (Ln i : Int), .bool (Up i)] 31)).alloc (.cells #[.int .i64 (St i), .int .u8 (Ln i : Int), .bool (Up i)] 31))) := (HH.out.2.2.2.alloc _).alloc _
        have hR2 : Hid (((wr.alloc (.cells #[.int .i64 (St i), .int .u8 (Ln i : Int), .bool (Up i)] 31)).alloc (.cells #[.int .i64 (St i), .int .u8 (Ln i : Int), .bool (Up i)] 31)).ownsRow base 31 3 (.slice (some ⟨g, 0, none⟩) n cap) n (edL (fun x => St (M x)) (fun x => Ln (M x)) (fun x => Up (M x)) n)) := World.ownsRow.alloc (World.ownsRow.alloc HH.out.1 _) _
        have hX2 : Hid (Blk ((wr.alloc (.cells #[.int .i64 (St i), .int .u8 (Ln i : Int), .bool (Up i)] 31)).alloc (.cells #[.int .i64 (St i), .int .u8 (Ln i : Int), .bool (Up i)] 31)) wr.heap.size 31 #[.int .i64 (St i), .int .u8 (Ln i : Int), .bool (Up i)]) := HX.out.alloc _
        by_cases hd : t < St i
        · rw [decide_eq_true hd] at hu
          have HD := hide hd
          clear hd
          refine hu.mono ?_
          clear hu
          rintro e w4 ⟨rfl, rfl⟩
          go_wp2_with fail
          refine ⟨⟨i + 1, j, M, by omega, by omega, by go_num, rfl, ?_, by omega, hR2.out, fun x hx => ?_, fun x hx => HH.out.2.2.1 x (by omega), hO2.out⟩, ?_⟩
          · rw [kp_snoc, if_pos HD.out, List.append_nil]; exact HJ.out
          · rw [HH.out.2.1 x hx]
            unfold kpF
            rw [kp_snoc, if_pos HD.out, List.append_nil]
          · simp [intOf] <;> omega
        · rw [decide_eq_false hd] at hu
          have HD := hide hd
          clear hd
          refine hu.mono ?_
          clear hu
          rintro e w4 ⟨rfl, hw4⟩
          rw [hw4] at hO2 hR2 hX2
          clear hw4
          have hX3 := hX2.out
          have hth := own_there (o := j * 3) (m := 3) hR2.out (by omega)
          have jn : (j : Int) < (n : Int) := by omega
          go_wp2_with (first | (refine wpList_load_row rfl 31 _ rfl wr.heap.size rfl _ #[.int .i64 (St i), .int .u8 (Ln i : Int), .bool (Up i)] (0, 0) _ hX3 Tryd.underlying31 rfl (by kernel_rfl) ?_) | (refine wpList_store_mid rfl 31 _ _ rfl g (j * 3) #[.int .i64 (St i), .int .u8 (Ln i : Int), .bool (Up i)] rfl rfl hth (by kernel_rfl) (by kernel_rfl) ?_))
          refine ⟨⟨i + 1, j + 1, fun x => if x = j then i else M x, by omega, by omega, by go_num, by go_num, ?_, by omega, own_copy (i := i) hR2.out (by omega), fun x hx => ?_, fun x hx => ?_, only_setCells (S := fun k => k = g) rfl _ _ _ hO2.out⟩, ?_⟩
          · rw [kp_snoc, if_neg (by have := HD.out; omega), List.length_append]
            have := HJ.out
            simp; omega
          · have hJ := HJ.out
            unfold kpF
            rw [kp_snoc, if_neg (by have := HD.out; omega)]
            show (if x = j then i else M x) = _
            by_cases e : x = j
            · subst e
              rw [if_pos rfl, List.getD_eq_getElem?_getD, List.getElem?_append_right (by omega), hJ]
              simp
            · rw [if_neg e, List.getD_eq_getElem?_getD, List.getElem?_append_left (by omega), ← List.getD_eq_getElem?_getD]
              exact HH.out.2.1 x (by omega)
          · show (if x = j then i else M x) = x
            rw [if_neg (by omega)]
            exact HH.out.2.2.1 x (by omega)
          · simp [intOf] <;> omega
      · obtain rfl : i = n := by omega
        obtain ⟨h1, h2, h3, h4⟩ := HH.out
        have k2 : (decide ((i : Int) < (i : Int))) = false := decide_eq_false (by omega)
        have hth := own_there (o := j * 3) (m := (i - j) * 3) h1 (by omega)
        have hcl := fun ty => run_clear_edges wr ty g (j * 3) (i - j) (cap - j) (by omega) (fun x hx => (hth x hx).1) (fun x hx => (hth x hx).2)
        have jn1 : (j : Int) ≤ (i : Int) := by omega
        have jn2 : (j : Int) ≤ (cap : Int) := by omega
        have HJ := hide hj
        obtain ⟨ys, o1, o2⟩ := own_setCells (edL (fun _ => 0) (fun _ => 0) (fun _ => false) (i - j)) (j * 3) wr _ h1 (by rw [edL_len]; omega)
        have o3 := own_less o1 (m := j) (by omega)
        have e : ys.take (j * 3) = edL (fun x => St (kpF t St i x)) (fun x => Ln (kpF t St i x)) (fun x => Up (kpF t St i x)) j := by
          apply List.ext_getElem?
          intro k
          rcases Nat.lt_or_ge k (j * 3) with hk | hk
          · rw [List.getElem?_take_of_lt hk, o2 k, if_neg (by omega)]
            obtain ⟨a, r, rfl, ha, hr⟩ : ∃ a r, k = a * 3 + r ∧ a < j ∧ r < 3 := ⟨k / 3, k % 3, by omega, by omega, by omega⟩
            rw [edL_get _ _ _ i a r (by omega) hr, edL_get _ _ _ j a r ha hr]
            simp [edR, h2 a ha]
          · rw [List.getElem?_take, if_neg (by omega), List.getElem?_eq_none (by rw [edL_len]; omega)]
        rw [e] at o3
        have O3 := hide o3
        have O4 : Hid (Only (fun k => k = g) w (wr.setCells g (j * 3) (edL (fun _ => 0) (fun _ => 0) (fun _ => false) (i - j)))) := only_setCells (S := fun k => k = g) rfl _ _ _ h4
        clear h1 h2 h3 h4 hj o1 o2 o3 e hth
        go_wp2_with fail
        go_ret
        rw [← HJ.out]
        exact ⟨rfl, O3.out, O4.out⟩
  · have hkz : ((-1 : Int) == -1) = true := rfl
    have e := kp_all t St n (fun j hj => by have := hall j hj; omega)
    have HE := hide e
    have HB := hide hb1
    have HA := hide hall
    clear e hb1 hall
    go_wp2_with fail
    go_ret
    have hl : (kp t St n).length = n := by rw [HE.out, List.length_range]
    rw [hl]
    refine ⟨rfl, ?_, (Only.of HB.out)⟩
    have h := own_only (S := fun _ => False) HO.out (Only.of HB.out) (fun _ _ h => h)
    have e2 : edL (fun x => St (kpF t St n x)) (fun x => Ln (kpF t St n x)) (fun x => Up (kpF t St n x)) n = edL St Ln Up n := by
      apply List.ext_getElem?
      intro k
      rcases Nat.lt_or_ge k (n * 3) with hk | hk
      · obtain ⟨a, r, rfl, ha, hr⟩ : ∃ a r, k = a * 3 + r ∧ a < n ∧ r < 3 := ⟨k / 3, k % 3, by omega, by omega, by omega⟩
        rw [edL_get _ _ _ n a r ha hr, edL_get _ _ _ n a r ha hr]
        have : kpF t St n a = a := by unfold kpF; rw [HE.out]; simp [ha]
        simp [edR, this]
      · rw [List.getElem?_eq_none (by rw [edL_len]; omega), List.getElem?_eq_none (by rw [edL_len]; omega)]
    rw [e2]
    exact h
end Go.Proofs.YtdhdknjefjolpaaDoor
end
