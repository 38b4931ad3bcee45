/-
  The texts Sc54 of the proofs about scripts, as one file (they are merged by a program).
-/
import Derived.Test.YtdhdknjefjolpaaDoorA21
section
/-
  gannetlaw33: ScriptChecks.
-/
namespace Go.Proofs.YtdhdknjefjolpaaDoor
set_option linter.unusedSimpArgs false
set_option linter.unusedVariables false
set_option maxRecDepth 10000
open Go.RowKit Go.Shelf Pl
theorem getD_map (L : List Nat) : (List.range L.length).map (fun i => L.getD i 0) = L := by
  apply List.ext_getElem
  · simp
  · intro i h1 h2
    simp [List.getD, h2]
theorem edL_list (L : List Nat) (St : Nat → Int) (Ln : Nat → Nat) (Up : Nat → Bool) : edL (fun x => St (L.getD x 0)) (fun x => Ln (L.getD x 0)) (fun x => Up (L.getD x 0)) L.length = L.flatMap (edR St Ln Up) := by
  conv => rhs; rw [← getD_map L]
  unfold edL
  rw [List.flatMap_map]
  rfl
set_option maxRecDepth 100000 in
set_option maxHeartbeats 16000000 in
theorem checks_law (o o0 o1 o2 oe : Option Addr) (n c l0 c0 l1 c1 l2 c2 ne ce : Nat) (bud t : Int) (F F0 F1 F2 : Nat → Nat) (St : Nat → Int) (Ln : Nat → Nat) (Up : Nat → Bool) (M : Int) (w : World) (hM : w.cell? ⟨0, 0, none⟩ = some (.int .i64 M))
    (h : ScrIn w o o0 o1 o2 oe n c l0 c0 l1 c1 l2 c2 ne ce F F0 F1 F2 St Ln Up) (hn : n ≤ 140737488355328) (hl0 : l0 ≤ 140737488355328) (hl1 : l1 ≤ 140737488355328) (hl2 : l2 ≤ 140737488355328) (hne : ne ≤ 8796093021952) :
    Calls Tryd.prog 3 #[.agg #[Value.slice o n c, Value.slice o0 l0 c0, Value.slice o1 l1 c1, Value.slice o2 l2 c2, Value.slice oe ne ce, Value.int .i64 bud], .int .i64 t] w fun e w' => e = .returned (.bool true) ∧ Below w.heap.size w w' := by
  obtain ⟨i0, hi, hz0, hz1, hz2⟩ := info_parts infoEd
  have hX : Blk (w.alloc (.cells #[Value.slice o n c, Value.slice o0 l0 c0, Value.slice o1 l1 c1, Value.slice o2 l2 c2, Value.slice oe ne ce, Value.int .i64 bud] 27)) w.heap.size 27 #[Value.slice o n c, Value.slice o0 l0 c0, Value.slice o1 l1 c1, Value.slice o2 l2 c2, Value.slice oe ne ce, Value.int .i64 bud] := Blk.new _ _ _
  have hb1 : Below w.heap.size w (w.alloc (.cells #[Value.slice o n c, Value.slice o0 l0 c0, Value.slice o1 l1 c1, Value.slice o2 l2 c2, Value.slice oe ne ce, Value.int .i64 bud] 27)) := Bl.alloc (Below.refl _ _) _
  have hM1 := (hb1.cell (p := ⟨0, 0, none⟩) (cell_lt hM)).trans hM
  have hlv := live33_calls M _ hM1
  have HX := hide hX
  have HB1 := hide hb1
  have HI := hide h
  have hm : maxLen = 9223372036854775807 := rfl
  clear hX hb1 hM1 hM h
  go_enter Tryd.func3, Tryd.ntmps3
  go_wp2_with fail
  with_reducible refine hlv.mono ?_
  clear hlv
  rintro e w2 ⟨rfl, hb2⟩
  have hX2 : Blk w2 w.heap.size 27 #[Value.slice o n c, Value.slice o0 l0 c0, Value.slice o1 l1 c1, Value.slice o2 l2 c2, Value.slice oe ne ce, Value.int .i64 bud] := HX.out.below hb2 HX.out.lt
  have hB2 := HB1.out.trans (hb2.mono HB1.out.size)
  have HB2 := hide hB2
  have HX2 := hide hX2
  have hu := until_calls o o0 o1 o2 oe n c l0 c0 l1 c1 l2 c2 ne ce bud t (fun i => (F i : Int)) (fun i => (F0 i : Int)) (fun i => (F1 i : Int)) (fun i => (F2 i : Int)) St Ln Up w2 hn hl0 hl1 hl2 hne (HI.out.f.below hB2 (Nat.le_refl _)) (HI.out.f0.below hB2 (Nat.le_refl _)) (HI.out.f1.below hB2 (Nat.le_refl _)) (HI.out.f2.below hB2 (Nat.le_refl _)) ((HI.out.e.below hB2 (Nat.le_refl _)).mono hB2.size)
  clear hb2 hB2
  go_wp2_with (first | (refine wpList_load_row rfl 27 _ rfl w.heap.size rfl _ #[Value.slice o n c, Value.slice o0 l0 c0, Value.slice o1 l1 c1, Value.slice o2 l2 c2, Value.slice oe ne ce, Value.int .i64 bud] (0, 0) _ hX2 Tryd.underlying27 rfl (by kernel_rfl) ?_))
  with_reducible refine hu.mono ?_
  clear hu hX2
  rintro e w3 ⟨p, p0, p1, p2, pe, d, d0, d1, d2, de, rfl, f, f0, f1, f2, hE, hb3⟩
  have hZ : Blk (w3.alloc (.cells #[Value.slice none 0 0, .slice none 0 0, .slice none 0 0, .slice none 0 0, .slice none 0 0, .int .i64 0] 27)) w3.heap.size 27 #[Value.slice none 0 0, .slice none 0 0, .slice none 0 0, .slice none 0 0, .slice none 0 0, .int .i64 0] := Blk.new _ _ _
  have sR := setRow_new w3 #[Value.slice none 0 0, .slice none 0 0, .slice none 0 0, .slice none 0 0, .slice none 0 0, .int .i64 0] #[Value.slice p n d, Value.slice p0 l0 d0, Value.slice p1 l1 d1, Value.slice p2 l2 d2, Value.slice pe (kp t St ne).length de, Value.int .i64 bud] 27
  have hU4 : Blk (w3.alloc (.cells #[Value.slice p n d, Value.slice p0 l0 d0, Value.slice p1 l1 d1, Value.slice p2 l2 d2, Value.slice pe (kp t St ne).length de, Value.int .i64 bud] 27)) w3.heap.size 27 #[Value.slice p n d, Value.slice p0 l0 d0, Value.slice p1 l1 d1, Value.slice p2 l2 d2, Value.slice pe (kp t St ne).length de, Value.int .i64 bud] := Blk.new _ _ _
  have hb4 : Below w3.heap.size w3 (w3.alloc (.cells #[Value.slice p n d, Value.slice p0 l0 d0, Value.slice p1 l1 d1, Value.slice p2 l2 d2, Value.slice pe (kp t St ne).length de, Value.int .i64 bud] 27)) := Bl.alloc (Below.refl _ _) _
  have hX3 : Blk w3 w.heap.size 27 #[Value.slice o n c, Value.slice o0 l0 c0, Value.slice o1 l1 c1, Value.slice o2 l2 c2, Value.slice oe ne ce, Value.int .i64 bud] := HX2.out.below hb3 HX2.out.lt
  have HX4 : Hid (Blk (w3.alloc (.cells #[Value.slice p n d, Value.slice p0 l0 d0, Value.slice p1 l1 d1, Value.slice p2 l2 d2, Value.slice pe (kp t St ne).length de, Value.int .i64 bud] 27)) w.heap.size 27 #[Value.slice o n c, Value.slice o0 l0 c0, Value.slice o1 l1 c1, Value.slice o2 l2 c2, Value.slice oe ne ce, Value.int .i64 bud]) := hX3.alloc _
  have HB4 : Hid (Below w.heap.size w (w3.alloc (.cells #[Value.slice p n d, Value.slice p0 l0 d0, Value.slice p1 l1 d1, Value.slice p2 l2 d2, Value.slice pe (kp t St ne).length de, Value.int .i64 bud] 27))) := HB2.out.trans ((hb3.trans (hb4.mono hb3.size)).mono HB2.out.size)
  have HU : Hid (NumsAt (w3.alloc (.cells #[Value.slice p n d, Value.slice p0 l0 d0, Value.slice p1 l1 d1, Value.slice p2 l2 d2, Value.slice pe (kp t St ne).length de, Value.int .i64 bud] 27)) .u8 p n (fun i => (F i : Int)) ∧ NumsAt (w3.alloc (.cells #[Value.slice p n d, Value.slice p0 l0 d0, Value.slice p1 l1 d1, Value.slice p2 l2 d2, Value.slice pe (kp t St ne).length de, Value.int .i64 bud] 27)) .u8 p0 l0 (fun i => (F0 i : Int)) ∧ NumsAt (w3.alloc (.cells #[Value.slice p n d, Value.slice p0 l0 d0, Value.slice p1 l1 d1, Value.slice p2 l2 d2, Value.slice pe (kp t St ne).length de, Value.int .i64 bud] 27)) .u8 p1 l1 (fun i => (F1 i : Int)) ∧ NumsAt (w3.alloc (.cells #[Value.slice p n d, Value.slice p0 l0 d0, Value.slice p1 l1 d1, Value.slice p2 l2 d2, Value.slice pe (kp t St ne).length de, Value.int .i64 bud] 27)) .u8 p2 l2 (fun i => (F2 i : Int)) ∧ EdgB (w3.alloc (.cells #[Value.slice p n d, Value.slice p0 l0 d0, Value.slice p1 l1 d1, Value.slice p2 l2 d2, Value.slice pe (kp t St ne).length de, Value.int .i64 bud] 27)) pe (kp t St ne).length (fun x => St (kpF t St ne x)) (fun x => Ln (kpF t St ne x)) (fun x => Up (kpF t St ne x)) w3.heap.size) :=
    ⟨f.below hb4 (Nat.le_refl _), f0.below hb4 (Nat.le_refl _), f1.below hb4 (Nat.le_refl _), f2.below hb4 (Nat.le_refl _), hE.below hb4 (Nat.le_refl _)⟩
  have hK := kp_len t St ne
  have HU4 := hide hU4
  have HHM : Hid (w3.heap.size < (w3.alloc (.cells #[Value.slice p n d, Value.slice p0 l0 d0, Value.slice p1 l1 d1, Value.slice p2 l2 d2, Value.slice pe (kp t St ne).length de, Value.int .i64 bud] 27)).heap.size) := by unfold Hid; simp
  clear f f0 f1 f2 hE hb3 hb4 hX3 hU4
  go_wp2_with (first | (refine wpList_store_row rfl 27 _ _ rfl w3.heap.size #[Value.slice p n d, Value.slice p0 l0 d0, Value.slice p1 l1 d1, Value.slice p2 l2 d2, Value.slice pe (kp t St ne).length de, Value.int .i64 bud] rfl rfl 27 _ hZ (by kernel_rfl) rfl (by kernel_rfl) ?_; rw [sR]))
  clear hZ sR
  generalize w3.alloc (.cells #[Value.slice p n d, Value.slice p0 l0 d0, Value.slice p1 l1 d1, Value.slice p2 l2 d2, Value.slice pe (kp t St ne).length de, Value.int .i64 bud] 27) = w4 at *
  generalize w3.heap.size = g3 at *
  have HKL := hide hK
  clear hK
  go_loopw [6, 7] (fun v6 v7 wr => ∃ (k : Nat) (V : Value), k ≤ ne ∧ V = v6 ∧ v7 = .int .i64 (k : Int) ∧ Hid (wr.ownsRow w4.heap.size 31 3 V (kp t St k).length ((kp t St k).flatMap (edR St Ln Up)) ∧ Below w4.heap.size w4 wr)) (fun _ v7 _ => ne - (intOf v7).toNat)
  case atStart => exact ⟨0, _, by omega, rfl, rfl, World.ownsRow_nil _ _ _ _, Below.refl _ _⟩
  case round =>
    obtain ⟨k, V, hk, hV, rfl, HH⟩ := hrel
    subst hV
    have hb := HH.out.2
    have k4 : wr.cell? ⟨w.heap.size, 4, none⟩ = some (.slice oe ne ce) := (hb.cell (cell_lt (HX4.out.cell 4))).trans (HX4.out.cell 4)
    have hbw : Below w.heap.size w wr := HB4.out.trans (hb.mono HB4.out.size)
    have hkl := kp_len t St k
    rcases Nat.lt_or_ge k ne with hlt | hge
    · have hE := HI.out.e.below hbw (Nat.le_refl _)
      obtain ⟨be, off, rfl, hbb, e0, e1, e2⟩ := hE k hlt
      have hr := edge_range hE hlt
      unfold edR at hr
      have k1 : (k : Int) < (ne : Int) := by omega
      clear hE hbb e1 e2 hbw hb
      by_cases hts : t < St k
      · have i1 : (decide (St k ≤ t)) = false := decide_eq_false (by omega)
        have HT := hide hts
        clear hts hr
        go_wp2_with fail
        refine ⟨⟨k + 1, V, by omega, rfl, by go_num, by rw [kp_snoc, if_pos HT.out, List.append_nil]; exact HH.out⟩, ?_⟩
        simp [intOf]; omega
      · have i1 : St k ≤ t := by omega
        have HT := hide hts
        have hown := (HH.out.1).alloc (.cells #[.int .i64 (St k), .int .u8 (Ln k : Int), .bool (Up k)] 31)
        have hnew : Blk (wr.alloc (.cells #[.int .i64 (St k), .int .u8 (Ln k : Int), .bool (Up k)] 31)) wr.heap.size 31 #[.int .i64 (St k), .int .u8 (Ln k : Int), .bool (Up k)] := Blk.new _ _ _
        have hws := HH.out.2.size
        have hws2 : w4.heap.size ≤ (wr.alloc (.cells #[.int .i64 (St k), .int .u8 (Ln k : Int), .bool (Up k)] 31)).heap.size := by simp; omega
        have hcs : ∀ j u, (edR St Ln Up k)[j]? = some u → (wr.alloc (.cells #[.int .i64 (St k), .int .u8 (Ln k : Int), .bool (Up k)] 31)).cell? ((⟨wr.heap.size, 0, none⟩ : Addr).add j) = some u := by
          intro j u hu
          rw [add_plain, Nat.zero_add, hnew.cell j, ← Array.getElem?_toList]
          exact hu
        have h1c : ∀ u ∈ edR St Ln Up k, u.oneCell' = true := by
          intro u h
          simp only [edR, List.mem_cons, List.not_mem_nil, or_false] at h
          rcases h with rfl | rfl | rfl <;> rfl
        have HNW : Hid (Below w4.heap.size w4 (wr.alloc (.cells #[.int .i64 (St k), .int .u8 (Ln k : Int), .bool (Up k)] 31))) := Bl.alloc HH.out.2 _
        clear hts hnew
        go_wp2_with (first | (refine wpList_load_mid rfl 31 _ rfl be (off + k * 3) rfl [Value.int .i64 (St k), Value.int .u8 (Ln k : Int), Value.bool (Up k)] _ hr Tryd.underlying31 rfl (by kernel_rfl) ?_) | (at_builtin; refine wpList_append_own _ rfl _ _ 25 rfl w4.heap.size 31 i0 (.agg #[.int .i64 0, .int .u8 0, .bool false]) 3 16 Tryd.underlying25 hi hz0 hz1 hz2 rfl (by decide) V _ _ rfl hown ⟨wr.heap.size, 0, none⟩ 1 1 (edR St Ln Up k) rfl rfl hcs h1c (by omega) (by omega) hws2 ?_; intro v' w6 hown6 hgrow hnil'))
        have hb6 : Below w4.heap.size w4 w6 := HNW.out.grown hgrow hws2 (fun k hk => (hown.lt k hk).1)
        have HO6 := hide hown6
        have HB6 := hide hb6
        clear hr hown hcs h1c hgrow hnil' hown6 hb6 hws2 k4
        go_wp2_with fail
        refine ⟨⟨k + 1, v', by omega, rfl, by go_num, ?_⟩, ?_⟩
        · rw [kp_snoc, if_neg HT.out, List.flatMap_append, List.length_append]
          exact ⟨by simpa using HO6.out, HB6.out⟩
        · simp [intOf]; omega
    · obtain rfl : k = ne := by omega
      have k2 : (decide ((k : Int) < (k : Int))) = false := decide_eq_false (by omega)
      obtain ⟨qe, qc, rfl, HQE⟩ : ∃ qe qc, V = .slice qe (kp t St k).length qc ∧ Hid (EdgB wr qe (kp t St k).length (fun x => St (kpF t St k x)) (fun x => Ln (kpF t St k x)) (fun x => Up (kpF t St k x)) wr.heap.size) := by
        have ho := HH.out.1
        have e := edL_list (kp t St k) St Ln Up
        rw [← e] at ho
        rcases ho.2 with ⟨hv, hz⟩ | ⟨g, cap, cur, hv, _⟩
        · exact ⟨none, 0, by rw [hv, hz], fun i hi => by omega⟩
        · subst hv
          exact ⟨_, _, rfl, own_edges ho⟩
      have hu4 : Blk wr g3 27 #[Value.slice p n d, Value.slice p0 l0 d0, Value.slice p1 l1 d1, Value.slice p2 l2 d2, Value.slice pe (kp t St k).length de, Value.int .i64 bud] := HU4.out.below hb HU4.out.lt
      have hx4 : Blk wr w.heap.size 27 #[Value.slice o n c, Value.slice o0 l0 c0, Value.slice o1 l1 c1, Value.slice o2 l2 c2, Value.slice oe k ce, Value.int .i64 bud] := HX4.out.below hb HX4.out.lt
      obtain ⟨KQ, hKK⟩ : ∃ KQ, (kp t St k).length = KQ := ⟨_, rfl⟩
      have HKK := hide hKK
      rw [hKK] at hu4
      have hKb : KQ ≤ 8796093021952 := by have := HKL.out; omega
      have hZ8 : Blk (wr.alloc (.cells #[Value.slice none 0 0, .slice none 0 0, .slice none 0 0, .slice none 0 0, .slice none 0 0, .int .i64 0] 27)) wr.heap.size 27 #[Value.slice none 0 0, .slice none 0 0, .slice none 0 0, .slice none 0 0, .slice none 0 0, .int .i64 0] := Blk.new _ _ _
      have sR := setRow_new wr #[Value.slice none 0 0, .slice none 0 0, .slice none 0 0, .slice none 0 0, .slice none 0 0, .int .i64 0] #[Value.slice o n c, Value.slice o0 l0 c0, Value.slice o1 l1 c1, Value.slice o2 l2 c2, Value.slice oe k ce, Value.int .i64 bud] 27
      have hX8 : Blk (wr.alloc (.cells #[Value.slice o n c, Value.slice o0 l0 c0, Value.slice o1 l1 c1, Value.slice o2 l2 c2, Value.slice oe k ce, Value.int .i64 bud] 27)) wr.heap.size 27 #[Value.slice o n c, Value.slice o0 l0 c0, Value.slice o1 l1 c1, Value.slice o2 l2 c2, Value.slice oe k ce, Value.int .i64 bud] := Blk.new _ _ _
      have f4 := hX8.frozen 4
      have c4 : (wr.alloc (.cells #[Value.slice o n c, Value.slice o0 l0 c0, Value.slice o1 l1 c1, Value.slice o2 l2 c2, Value.slice oe k ce, Value.int .i64 bud] 27)).cell? ⟨wr.heap.size, 4, none⟩ = some (.slice oe k ce) := hX8.cell 4
      have hb9 : Below wr.heap.size wr (wr.alloc (.cells #[Value.slice o n c, Value.slice o0 l0 c0, Value.slice o1 l1 c1, Value.slice o2 l2 c2, Value.slice qe KQ qc, Value.int .i64 bud] 27)) := Bl.alloc (Below.refl _ _) _
      have hW9 : Blk (wr.alloc (.cells #[Value.slice o n c, Value.slice o0 l0 c0, Value.slice o1 l1 c1, Value.slice o2 l2 c2, Value.slice qe KQ qc, Value.int .i64 bud] 27)) wr.heap.size 27 #[Value.slice o n c, Value.slice o0 l0 c0, Value.slice o1 l1 c1, Value.slice o2 l2 c2, Value.slice qe KQ qc, Value.int .i64 bud] := Blk.new _ _ _
      have hu9 : Blk (wr.alloc (.cells #[Value.slice o n c, Value.slice o0 l0 c0, Value.slice o1 l1 c1, Value.slice o2 l2 c2, Value.slice qe KQ qc, Value.int .i64 bud] 27)) g3 27 #[Value.slice p n d, Value.slice p0 l0 d0, Value.slice p1 l1 d1, Value.slice p2 l2 d2, Value.slice pe KQ de, Value.int .i64 bud] := hu4.below hb9 hu4.lt
      have hx9 : Blk (wr.alloc (.cells #[Value.slice o n c, Value.slice o0 l0 c0, Value.slice o1 l1 c1, Value.slice o2 l2 c2, Value.slice qe KQ qc, Value.int .i64 bud] 27)) w.heap.size 27 #[Value.slice o n c, Value.slice o0 l0 c0, Value.slice o1 l1 c1, Value.slice o2 l2 c2, Value.slice oe k ce, Value.int .i64 bud] := hx4.below hb9 hx4.lt
      have HB9 := hide hb9
      have HBW := hide hbw
      have HBB := hide hb
      rw [hKK]
      clear hb hbw hu4 hb9 hX8 hKK
      go_wp2_with (first | (refine wpList_load_row rfl 27 _ rfl w.heap.size rfl _ #[Value.slice o n c, Value.slice o0 l0 c0, Value.slice o1 l1 c1, Value.slice o2 l2 c2, Value.slice oe k ce, Value.int .i64 bud] (0, 0) _ hx4 Tryd.underlying27 rfl (by kernel_rfl) ?_) | (refine wpList_store_row rfl 27 _ _ rfl wr.heap.size #[Value.slice o n c, Value.slice o0 l0 c0, Value.slice o1 l1 c1, Value.slice o2 l2 c2, Value.slice oe k ce, Value.int .i64 bud] rfl rfl 27 _ hZ8 (by kernel_rfl) rfl (by kernel_rfl) ?_; rw [sR]))
      clear hZ8 sR hx4 f4 c4 k4
      have hbz : Below w.heap.size w (wr.alloc (.cells #[Value.slice o n c, Value.slice o0 l0 c0, Value.slice o1 l1 c1, Value.slice o2 l2 c2, Value.slice qe KQ qc, Value.int .i64 bud] 27)) := HBW.out.trans (HB9.out.mono HBW.out.size)
      have hb49 : Below w4.heap.size w4 (wr.alloc (.cells #[Value.slice o n c, Value.slice o0 l0 c0, Value.slice o1 l1 c1, Value.slice o2 l2 c2, Value.slice qe KQ qc, Value.int .i64 bud] 27)) := HBB.out.trans (HB9.out.mono HBB.out.size)
      have hEq := (HQE.out.below HB9.out (Nat.le_refl _)).mono HB9.out.size
      generalize wr.alloc (.cells #[Value.slice o n c, Value.slice o0 l0 c0, Value.slice o1 l1 c1, Value.slice o2 l2 c2, Value.slice qe KQ qc, Value.int .i64 bud] 27) = w9 at *
      generalize wr.heap.size = g9 at *
      have nf := HI.out.f.below hbz (Nat.le_refl _)
      have nf0 := HI.out.f0.below hbz (Nat.le_refl _)
      have nf1 := HI.out.f1.below hbz (Nat.le_refl _)
      have nf2 := HI.out.f2.below hbz (Nat.le_refl _)
      have nE := (HI.out.e.below hbz (Nat.le_refl _)).mono hbz.size
      have uf := HU.out.1.below hb49 (Nat.le_refl _)
      have uf0 := HU.out.2.1.below hb49 (Nat.le_refl _)
      have uf1 := HU.out.2.2.1.below hb49 (Nat.le_refl _)
      have uf2 := HU.out.2.2.2.1.below hb49 (Nat.le_refl _)
      have uE := (HU.out.2.2.2.2.below hb49 (by have := HHM.out; omega)).mono (show g3 ≤ w9.heap.size by have := HHM.out; have := hb49.size; omega)
      rw [HKK.out] at hEq uE
      have hck := fun W (h : EdgB W oe k St Ln Up W.heap.size) => sCheck_calls o o0 o1 o2 oe n c l0 c0 l1 c1 l2 c2 k ce bud St Ln Up W (by omega) h
      have hrk := fun W (h : EdgB W oe k St Ln Up W.heap.size) => rsCheck_calls o o0 o1 o2 oe n c l0 c0 l1 c1 l2 c2 k ce bud St Ln Up W (by omega) h
      obtain ⟨R, hR⟩ : ∃ R, chkS n l0 l1 l2 k St Ln bud = R := ⟨_, rfl⟩
      rw [hR] at hck hrk
      have hck : ∀ W, EdgB W oe k St Ln Up W.heap.size → Calls Tryd.prog 9 #[.agg #[Value.slice o n c, Value.slice o0 l0 c0, Value.slice o1 l1 c1, Value.slice o2 l2 c2, Value.slice oe k ce, Value.int .i64 bud]] W fun e w' => e = .returned (.agg #[Value.int .i64 (R.1 : Int), Value.int .i64 (R.2 : Int)]) ∧ Below W.heap.size W w' := hck
      have hrk : ∀ W, EdgB W oe k St Ln Up W.heap.size → Calls Tryd.prog 10 #[.agg #[Value.slice o n c, Value.slice o0 l0 c0, Value.slice o1 l1 c1, Value.slice o2 l2 c2, Value.slice oe k ce, Value.int .i64 bud]] W fun e w' => e = .returned (.agg #[Value.int .i64 (R.1 : Int), Value.int .i64 (R.2 : Int)]) ∧ Below W.heap.size W w' := hrk
      have hq := run_eql_fault (R.1 : Int) (R.2 : Int)
      have h99 : Below w9.heap.size w9 w9 := Below.refl _ _
      clear hR hb49
      go_wp2_with fail
      refine wp_region_held_drew (S := fun W => Blk W w.heap.size 27 #[Value.slice o n c, Value.slice o0 l0 c0, Value.slice o1 l1 c1, Value.slice o2 l2 c2, Value.slice oe k ce, Value.int .i64 bud] ∧ Blk W g3 27 #[Value.slice p n d, Value.slice p0 l0 d0, Value.slice p1 l1 d1, Value.slice p2 l2 d2, Value.slice pe KQ de, Value.int .i64 bud] ∧ Blk W g9 27 #[Value.slice o n c, Value.slice o0 l0 c0, Value.slice o1 l1 c1, Value.slice o2 l2 c2, Value.slice qe KQ qc, Value.int .i64 bud] ∧ EdgB W oe k St Ln Up w9.heap.size ∧ NumsAt W .u8 o n (fun i => (F i : Int)) ∧ NumsAt W .u8 o0 l0 (fun i => (F0 i : Int)) ∧ NumsAt W .u8 o1 l1 (fun i => (F1 i : Int)) ∧ NumsAt W .u8 o2 l2 (fun i => (F2 i : Int)) ∧ NumsAt W .u8 p n (fun i => (F i : Int)) ∧ NumsAt W .u8 p0 l0 (fun i => (F0 i : Int)) ∧ NumsAt W .u8 p1 l1 (fun i => (F1 i : Int)) ∧ NumsAt W .u8 p2 l2 (fun i => (F2 i : Int)) ∧ EdgB W pe KQ (fun x => St (kpF t St k x)) (fun x => Ln (kpF t St k x)) (fun x => Up (kpF t St k x)) w9.heap.size ∧ EdgB W qe KQ (fun x => St (kpF t St k x)) (fun x => Ln (kpF t St k x)) (fun x => Up (kpF t St k x)) w9.heap.size ∧ Below w.heap.size w W ∧ Below w9.heap.size w9 W) (by kernel_rfl) ⟨(by first | exact hx9.drew | exact hx9 | exact Below.drew hx9), (by first | exact hu9.drew | exact hu9 | exact Below.drew hu9), (by first | exact hW9.drew | exact hW9 | exact Below.drew hW9), (by first | exact nE.drew | exact nE | exact Below.drew nE), (by first | exact nf.drew | exact nf | exact Below.drew nf), (by first | exact nf0.drew | exact nf0 | exact Below.drew nf0), (by first | exact nf1.drew | exact nf1 | exact Below.drew nf1), (by first | exact nf2.drew | exact nf2 | exact Below.drew nf2), (by first | exact uf.drew | exact uf | exact Below.drew uf), (by first | exact uf0.drew | exact uf0 | exact Below.drew uf0), (by first | exact uf1.drew | exact uf1 | exact Below.drew uf1), (by first | exact uf2.drew | exact uf2 | exact Below.drew uf2), (by first | exact uE.drew | exact uE | exact Below.drew uE), (by first | exact hEq.drew | exact hEq | exact Below.drew hEq), (by first | exact hbz.drew | exact hbz | exact Below.drew hbz), (by first | exact h99.drew | exact h99 | exact Below.drew h99)⟩ (fun hS0 => ?_)
      clear hx9 hu9 hW9 nE nf nf0 nf1 nf2 uf uf0 uf1 uf2 uE hEq hbz h99
      change wpAnyH _ _ _ _ _ 11 #[false, false, false, false, false, false, false, false, false, false, false] _ _
      generalize w9.drew = v0 at *
      refine wpAnyH_take (i := 0) (v := .agg #[Value.slice o n c, Value.slice o0 l0 c0, Value.slice o1 l1 c1, Value.slice o2 l2 c2, Value.slice oe k ce, Value.int .i64 bud]) rfl (by kernel_rfl) (by kernel_rfl) (by kernel_rfl) (fun _ _ _ h => h) (YieldsIf.row_w (by rfl) 27 _ rfl w.heap.size rfl _ _ _ (fun _ h => h.1) Tryd.underlying27 rfl (by kernel_rfl)) hS0 ?_
      simp only [List.getElem_toArray, List.getElem_cons_zero, List.getElem_cons_succ, Act.put, List.setIfInBounds_toArray, List.set_cons_zero, List.set_cons_succ]
      refine wpAnyH_take (i := 2) (v := .agg #[Value.slice o n c, Value.slice o0 l0 c0, Value.slice o1 l1 c1, Value.slice o2 l2 c2, Value.slice oe k ce, Value.int .i64 bud]) rfl (by kernel_rfl) (by kernel_rfl) (by kernel_rfl) (fun _ _ _ h => h) (YieldsIf.row_w (by rfl) 27 _ rfl w.heap.size rfl _ _ _ (fun _ h => h.1) Tryd.underlying27 rfl (by kernel_rfl)) hS0 ?_
      simp only [List.getElem_toArray, List.getElem_cons_zero, List.getElem_cons_succ, Act.put, List.setIfInBounds_toArray, List.set_cons_zero, List.set_cons_succ]
      refine wpAnyH_ready (rs := [1]) (by kernel_rfl) (by simp) ?_
      refine AllReadyH.cons rfl (fun K hK => ?_) AllReadyH.nil
      go_simp
      with_reducible refine (hck _ (hS0.2.2.2.1.mono hS0.2.2.2.2.2.2.2.2.2.2.2.2.2.2.2.size)).mono ?_
      rintro e v1 ⟨rfl, hb1⟩
      (try go_simp)
      refine hK.out _ _ ⟨(hS0.1.below hb1 hS0.1.lt), (hS0.2.1.below hb1 hS0.2.1.lt), (hS0.2.2.1.below hb1 hS0.2.2.1.lt), (by first | exact hS0.2.2.2.1.low hb1 | exact hS0.2.2.2.1.below hb1 (Nat.le_refl _)), (hS0.2.2.2.2.1.below hb1 (Nat.le_refl _)), (hS0.2.2.2.2.2.1.below hb1 (Nat.le_refl _)), (hS0.2.2.2.2.2.2.1.below hb1 (Nat.le_refl _)), (hS0.2.2.2.2.2.2.2.1.below hb1 (Nat.le_refl _)), (hS0.2.2.2.2.2.2.2.2.1.below hb1 (Nat.le_refl _)), (hS0.2.2.2.2.2.2.2.2.2.1.below hb1 (Nat.le_refl _)), (hS0.2.2.2.2.2.2.2.2.2.2.1.below hb1 (Nat.le_refl _)), (hS0.2.2.2.2.2.2.2.2.2.2.2.1.below hb1 (Nat.le_refl _)), (by first | exact hS0.2.2.2.2.2.2.2.2.2.2.2.2.1.low hb1 | exact hS0.2.2.2.2.2.2.2.2.2.2.2.2.1.below hb1 (Nat.le_refl _)), (by first | exact hS0.2.2.2.2.2.2.2.2.2.2.2.2.2.1.low hb1 | exact hS0.2.2.2.2.2.2.2.2.2.2.2.2.2.1.below hb1 (Nat.le_refl _)), (by first | exact hS0.2.2.2.2.2.2.2.2.2.2.2.2.2.2.1.trans (hb1.mono hS0.2.2.2.2.2.2.2.2.2.2.2.2.2.2.1.size) | exact hS0.2.2.2.2.2.2.2.2.2.2.2.2.2.2.1.trans (hb1.mono (by have := hS0.2.2.2.2.2.2.2.2.2.2.2.2.2.2.1.size; omega))), (by first | exact hS0.2.2.2.2.2.2.2.2.2.2.2.2.2.2.2.trans (hb1.mono hS0.2.2.2.2.2.2.2.2.2.2.2.2.2.2.2.size) | exact hS0.2.2.2.2.2.2.2.2.2.2.2.2.2.2.2.trans (hb1.mono (by have := hS0.2.2.2.2.2.2.2.2.2.2.2.2.2.2.2.size; omega)))⟩ (fun hS1 => ?_)
      clear hK K
      clear hb1 hS0
      simp only [List.getElem_toArray, List.getElem_cons_zero, List.getElem_cons_succ, Act.put, List.setIfInBounds_toArray, List.set_cons_zero, List.set_cons_succ]
      refine wpAnyH_ready (rs := [3]) (by kernel_rfl) (by simp) ?_
      refine AllReadyH.cons rfl (fun K hK => ?_) AllReadyH.nil
      go_simp
      with_reducible refine (hrk _ (hS1.2.2.2.1.mono hS1.2.2.2.2.2.2.2.2.2.2.2.2.2.2.2.size)).mono ?_
      rintro e v2 ⟨rfl, hb2⟩
      (try go_simp)
      refine hK.out _ _ ⟨(hS1.1.below hb2 hS1.1.lt), (hS1.2.1.below hb2 hS1.2.1.lt), (hS1.2.2.1.below hb2 hS1.2.2.1.lt), (by first | exact hS1.2.2.2.1.low hb2 | exact hS1.2.2.2.1.below hb2 (Nat.le_refl _)), (hS1.2.2.2.2.1.below hb2 (Nat.le_refl _)), (hS1.2.2.2.2.2.1.below hb2 (Nat.le_refl _)), (hS1.2.2.2.2.2.2.1.below hb2 (Nat.le_refl _)), (hS1.2.2.2.2.2.2.2.1.below hb2 (Nat.le_refl _)), (hS1.2.2.2.2.2.2.2.2.1.below hb2 (Nat.le_refl _)), (hS1.2.2.2.2.2.2.2.2.2.1.below hb2 (Nat.le_refl _)), (hS1.2.2.2.2.2.2.2.2.2.2.1.below hb2 (Nat.le_refl _)), (hS1.2.2.2.2.2.2.2.2.2.2.2.1.below hb2 (Nat.le_refl _)), (by first | exact hS1.2.2.2.2.2.2.2.2.2.2.2.2.1.low hb2 | exact hS1.2.2.2.2.2.2.2.2.2.2.2.2.1.below hb2 (Nat.le_refl _)), (by first | exact hS1.2.2.2.2.2.2.2.2.2.2.2.2.2.1.low hb2 | exact hS1.2.2.2.2.2.2.2.2.2.2.2.2.2.1.below hb2 (Nat.le_refl _)), (by first | exact hS1.2.2.2.2.2.2.2.2.2.2.2.2.2.2.1.trans (hb2.mono hS1.2.2.2.2.2.2.2.2.2.2.2.2.2.2.1.size) | exact hS1.2.2.2.2.2.2.2.2.2.2.2.2.2.2.1.trans (hb2.mono (by have := hS1.2.2.2.2.2.2.2.2.2.2.2.2.2.2.1.size; omega))), (by first | exact hS1.2.2.2.2.2.2.2.2.2.2.2.2.2.2.2.trans (hb2.mono hS1.2.2.2.2.2.2.2.2.2.2.2.2.2.2.2.size) | exact hS1.2.2.2.2.2.2.2.2.2.2.2.2.2.2.2.trans (hb2.mono (by have := hS1.2.2.2.2.2.2.2.2.2.2.2.2.2.2.2.size; omega)))⟩ (fun hS2 => ?_)
      clear hK K
      clear hb2 hS1
      simp only [List.getElem_toArray, List.getElem_cons_zero, List.getElem_cons_succ, Act.put, List.setIfInBounds_toArray, List.set_cons_zero, List.set_cons_succ]
      refine wpAnyH_take (i := 4) (v := ?_) rfl (by kernel_rfl) (by kernel_rfl) (by kernel_rfl) (fun _ _ _ h => h) (Or.inl ⟨by rfl, ?_⟩) hS2 ?_
      rotate_left
      · (intro w hSw; (try dsimp only at hSw); go_simp; try with_reducible rfl)
      simp only [List.getElem_toArray, List.getElem_cons_zero, List.getElem_cons_succ, Act.put, List.setIfInBounds_toArray, List.set_cons_zero, List.set_cons_succ]
      refine wpAnyH_take (i := 5) (v := ?_) rfl (by kernel_rfl) (by kernel_rfl) (by kernel_rfl) (fun _ _ _ h => h) (Or.inl ⟨by rfl, ?_⟩) hS2 ?_
      rotate_left
      · (intro w hSw; (try dsimp only at hSw); go_simp; try with_reducible rfl)
      simp only [List.getElem_toArray, List.getElem_cons_zero, List.getElem_cons_succ, Act.put, List.setIfInBounds_toArray, List.set_cons_zero, List.set_cons_succ]
      refine wpAnyH_take (i := 6) (v := .agg #[Value.slice p n d, Value.slice p0 l0 d0, Value.slice p1 l1 d1, Value.slice p2 l2 d2, Value.slice pe KQ de, Value.int .i64 bud]) rfl (by kernel_rfl) (by kernel_rfl) (by kernel_rfl) (fun _ _ _ h => h) (YieldsIf.row_w (by rfl) 27 _ rfl g3 rfl _ _ _ (fun _ h => h.2.1) Tryd.underlying27 rfl (by kernel_rfl)) hS2 ?_
      simp only [List.getElem_toArray, List.getElem_cons_zero, List.getElem_cons_succ, Act.put, List.setIfInBounds_toArray, List.set_cons_zero, List.set_cons_succ]
      refine wpAnyH_take (i := 7) (v := .agg #[Value.slice o n c, Value.slice o0 l0 c0, Value.slice o1 l1 c1, Value.slice o2 l2 c2, Value.slice qe KQ qc, Value.int .i64 bud]) rfl (by kernel_rfl) (by kernel_rfl) (by kernel_rfl) (fun _ _ _ h => h) (YieldsIf.row_w (by rfl) 27 _ rfl g9 rfl _ _ _ (fun _ h => h.2.2.1) Tryd.underlying27 rfl (by kernel_rfl)) hS2 ?_
      simp only [List.getElem_toArray, List.getElem_cons_zero, List.getElem_cons_succ, Act.put, List.setIfInBounds_toArray, List.set_cons_zero, List.set_cons_succ]
      refine wpAnyH_ready (rs := [8]) (by kernel_rfl) (by simp) ?_
      refine AllReadyH.cons rfl (fun K hK => ?_) AllReadyH.nil
      go_simp
      with_reducible refine (same_calls p p0 p1 p2 pe o o0 o1 o2 qe n d l0 d0 l1 d1 l2 d2 KQ de c c0 c1 c2 qc bud _ _ _ _ _ _ _ _ (by omega) (by omega) (by omega) (by omega) (by omega) hS2.2.2.2.2.2.2.2.2.1 hS2.2.2.2.2.2.2.2.2.2.1 hS2.2.2.2.2.2.2.2.2.2.2.1 hS2.2.2.2.2.2.2.2.2.2.2.2.1 hS2.2.2.2.2.1 hS2.2.2.2.2.2.1 hS2.2.2.2.2.2.2.1 hS2.2.2.2.2.2.2.2.1 (hS2.2.2.2.2.2.2.2.2.2.2.2.2.1.mono hS2.2.2.2.2.2.2.2.2.2.2.2.2.2.2.2.size) (hS2.2.2.2.2.2.2.2.2.2.2.2.2.2.1.mono hS2.2.2.2.2.2.2.2.2.2.2.2.2.2.2.2.size)).mono ?_
      rintro e v3 ⟨rfl, hb3⟩
      (try go_simp)
      refine hK.out _ _ ⟨(hS2.1.below hb3 hS2.1.lt), (hS2.2.1.below hb3 hS2.2.1.lt), (hS2.2.2.1.below hb3 hS2.2.2.1.lt), (by first | exact hS2.2.2.2.1.low hb3 | exact hS2.2.2.2.1.below hb3 (Nat.le_refl _)), (hS2.2.2.2.2.1.below hb3 (Nat.le_refl _)), (hS2.2.2.2.2.2.1.below hb3 (Nat.le_refl _)), (hS2.2.2.2.2.2.2.1.below hb3 (Nat.le_refl _)), (hS2.2.2.2.2.2.2.2.1.below hb3 (Nat.le_refl _)), (hS2.2.2.2.2.2.2.2.2.1.below hb3 (Nat.le_refl _)), (hS2.2.2.2.2.2.2.2.2.2.1.below hb3 (Nat.le_refl _)), (hS2.2.2.2.2.2.2.2.2.2.2.1.below hb3 (Nat.le_refl _)), (hS2.2.2.2.2.2.2.2.2.2.2.2.1.below hb3 (Nat.le_refl _)), (by first | exact hS2.2.2.2.2.2.2.2.2.2.2.2.2.1.low hb3 | exact hS2.2.2.2.2.2.2.2.2.2.2.2.2.1.below hb3 (Nat.le_refl _)), (by first | exact hS2.2.2.2.2.2.2.2.2.2.2.2.2.2.1.low hb3 | exact hS2.2.2.2.2.2.2.2.2.2.2.2.2.2.1.below hb3 (Nat.le_refl _)), (by first | exact hS2.2.2.2.2.2.2.2.2.2.2.2.2.2.2.1.trans (hb3.mono hS2.2.2.2.2.2.2.2.2.2.2.2.2.2.2.1.size) | exact hS2.2.2.2.2.2.2.2.2.2.2.2.2.2.2.1.trans (hb3.mono (by have := hS2.2.2.2.2.2.2.2.2.2.2.2.2.2.2.1.size; omega))), (by first | exact hS2.2.2.2.2.2.2.2.2.2.2.2.2.2.2.2.trans (hb3.mono hS2.2.2.2.2.2.2.2.2.2.2.2.2.2.2.2.size) | exact hS2.2.2.2.2.2.2.2.2.2.2.2.2.2.2.2.trans (hb3.mono (by have := hS2.2.2.2.2.2.2.2.2.2.2.2.2.2.2.2.size; omega)))⟩ (fun hS3 => ?_)
      clear hK K
      clear hb3 hS2
      simp only [List.getElem_toArray, List.getElem_cons_zero, List.getElem_cons_succ, Act.put, List.setIfInBounds_toArray, List.set_cons_zero, List.set_cons_succ]
      refine wpAnyH_take (i := 9) (v := ?_) rfl (by kernel_rfl) (by kernel_rfl) (by kernel_rfl) (fun _ _ _ h => h) (Or.inl ⟨by rfl, ?_⟩) hS3 ?_
      rotate_left
      · (intro w hSw; (try dsimp only at hSw); go_simp; try with_reducible rfl)
      simp only [List.getElem_toArray, List.getElem_cons_zero, List.getElem_cons_succ, Act.put, List.setIfInBounds_toArray, List.set_cons_zero, List.set_cons_succ]
      refine wpAnyH_take (i := 10) (v := ?_) rfl (by kernel_rfl) (by kernel_rfl) (by kernel_rfl) (fun _ _ _ h => h) (Or.inl ⟨by rfl, ?_⟩) hS3 ?_
      rotate_left
      · (intro w hSw; (try dsimp only at hSw); go_simp; try with_reducible rfl)
      simp only [List.getElem_toArray, List.getElem_cons_zero, List.getElem_cons_succ, Act.put, List.setIfInBounds_toArray, List.set_cons_zero, List.set_cons_succ]
      refine wpAnyH_done (by kernel_rfl) ?_ _
      have hx9 := hS3.1
      have hu9 := hS3.2.1
      have hW9 := hS3.2.2.1
      have nE := hS3.2.2.2.1
      have nf := hS3.2.2.2.2.1
      have nf0 := hS3.2.2.2.2.2.1
      have nf1 := hS3.2.2.2.2.2.2.1
      have nf2 := hS3.2.2.2.2.2.2.2.1
      have uf := hS3.2.2.2.2.2.2.2.2.1
      have uf0 := hS3.2.2.2.2.2.2.2.2.2.1
      have uf1 := hS3.2.2.2.2.2.2.2.2.2.2.1
      have uf2 := hS3.2.2.2.2.2.2.2.2.2.2.2.1
      have uE := hS3.2.2.2.2.2.2.2.2.2.2.2.2.1
      have hEq := hS3.2.2.2.2.2.2.2.2.2.2.2.2.2.1
      have hbz := hS3.2.2.2.2.2.2.2.2.2.2.2.2.2.2.1
      have h99 := hS3.2.2.2.2.2.2.2.2.2.2.2.2.2.2.2
      clear hS3
      go_wp2_with fail
      go_ret
      exact ⟨rfl, hbz⟩
section
open Go.ChangeShapes Go.WideShapes Go.ChangeAt
theorem walk_ScriptChecks {H : Type} {enc : TypeId × Value → H} {W : World} {base : Nat} {v0 v1 : Value} {d0 d1 : DataW H} {p0 p1 : List MemPlace}
    (hsh : W.ShapedOpen Tryd.prog) (hsz : (DataW.weightsEach Tryd.prog [27, 2] [d0, d1]).all (· ≤ reachBytes) = true)
    (hv0 : Value.okWide Tryd.prog W .any base 27 v0) (hd0 : DataW.Trod enc Tryd.prog W 0 (fun _ => true) true 27 v0 d0 p0) (hv1 : Value.okWide Tryd.prog W .any base 2 v1) (hd1 : DataW.Trod enc Tryd.prog W 0 (fun _ => true) true 2 v1 d1 p1) :
    Calls Tryd.prog 3 #[v0, v1] W fun e W' => e = .returned (.bool true) ∧ Below W.heap.size W W' := by
  obtain ⟨M, hM⟩ := maxLen_cell hsh
  obtain ⟨o, o0, o1, o2, oe, n, c, l0, c0, l1, c1, l2, c2, ne, ce, bud, F, F0, F1, F2, St, Ln, Up, rfl, h, _, _, hw⟩ := open_script hv0 hd0
  obtain ⟨t, rfl, _⟩ := open_i64 Tryd.underlying2 hv1 hd1
  obtain ⟨g0, g1, g2, g3, g4⟩ := hw _ _ 0 hsz rfl rfl
  have hr : reachBytes = 140737488351232 := rfl
  exact checks_law o o0 o1 o2 oe n c l0 c0 l1 c1 l2 c2 ne ce bud t F F0 F1 F2 St Ln Up M W hM h (by omega) (by omega) (by omega) (by omega) (by omega)
end
end Go.Proofs.YtdhdknjefjolpaaDoor
end
