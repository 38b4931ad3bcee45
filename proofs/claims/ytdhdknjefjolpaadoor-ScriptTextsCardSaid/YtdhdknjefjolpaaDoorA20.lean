/-
  The texts Sc48, Sc49, Sc50, Sc51 of the proofs about scripts, as one file (they are merged by a program).
-/
import Derived.Test.YtdhdknjefjolpaaDoorA16
import Derived.Test.YtdhdknjefjolpaaDoorA2
import Derived.Test.YtdhdknjefjolpaaDoorA1
import Derived.SizedLaws
import Derived.Test.YtdhdknjefjolpaaDoorA19
section
/-
  The texts of gannetlaw33.live: plain. No program in sight.
-/
namespace Go.Proofs.YtdhdknjefjolpaaDoor
set_option linter.unusedSimpArgs false
set_option linter.unusedVariables false
set_option maxRecDepth 10000
open Go.RowKit Go.Shelf Pl
def lvA : List UInt8 := [35, 32, 97, 32, 114, 117, 110, 10, 112, 97, 103, 101, 115, 32, 49, 10, 114, 111, 109, 32, 48, 48, 49, 70, 70, 69, 32, 48, 48, 32, 69, 48, 10, 118, 100, 99, 32, 48, 53, 10, 117, 112, 32, 55, 32, 105, 114, 113, 49, 10, 98, 117, 100, 103, 101, 116, 32, 49, 48, 48, 10]
def lvB : List UInt8 := [112, 97, 103, 101, 115, 32, 49, 10, 98, 117, 100, 103, 101, 116, 32, 49, 10, 112, 97, 103, 101, 115, 32, 50, 10]
def lvC : List UInt8 := [112, 97, 103, 101, 115, 32, 49, 10, 114, 111, 109, 32, 48, 48, 49, 70, 70, 70, 32, 69, 48, 10, 118, 100, 99, 32, 48, 53, 10, 117, 112, 32, 55, 32, 105, 114, 113, 49, 10, 98, 117, 100, 103, 101, 116, 32, 49, 48, 48, 10]
def lvT : Tl := ⟨some 1, some 100, [(8190, [0, 224])], [5], [], [], [(7, 2, true)]⟩
def lvF (i : Nat) : Nat := if i = 8191 then 224 else 0
def lvG (i : Nat) : Nat := [5].getD i 0
def lvE (i : Nat) : Nat := ([] : List Nat).getD i 0
def lvS (i : Nat) : Nat := (lvT.ed.getD i (0, 0, false)).1
set_option maxRecDepth 100000 in
theorem lvA_par : parG T0 0 [] lvA = (0, 0, lvT) := by kernel_rfl
set_option maxRecDepth 100000 in
theorem lvB_par : ∃ T, parG T0 0 [] lvB = (11, 3, T) := ⟨⟨some 1, some 1, [], [], [], [], []⟩, by kernel_rfl⟩
theorem lv_ok : ChkOk 8192 := by unfold ChkOk; omega
open Classical in
theorem lv_chk : chkS 8192 1 0 0 1 (fun i => (lvS i : Int)) (edLn lvT.ed) ((100 : Nat) : Int) = (0, 0) := by
  have h1 : chkA 8192 1 0 0 = 0 := by
    unfold chkA
    rw [if_neg (fun h => h lv_ok), if_neg (by omega)]
  have h2 : chkV (fun i => (lvS i : Int)) (edLn lvT.ed) 1 = (0, 0) := by decide
  unfold chkS
  rw [h1, h2, if_neg (by omega), if_neg (by simp), if_neg (by omega)]
open Classical in
theorem lvA_val : parV lvA = .inr (1, 100, lvT) := by
  have hfit : fitP (1 * 8192) lvT.ps := by
    intro i hi
    have h1 : lvT.ps.length = 1 := rfl
    obtain rfl : i = 0 := by omega
    show (0 : Int) ≤ 8190 ∧ (8190 : Int) + (2 : Nat) ≤ ((1 * 8192 : Nat) : Int)
    omega
  have hchk : chkT lvT 1 100 = (0, 0) := lv_chk
  have hlen : lvA.length = 61 := by decide
  unfold parV
  rw [if_neg (by omega), lvA_par, if_pos rfl]
  unfold parW
  show (if fitP (1 * 8192) lvT.ps then (if (chkT lvT 1 100).1 ≠ 0 then _ else _) else _) = _
  rw [if_pos hfit, hchk, if_neg (by simp)]
theorem lvB_val : parV lvB = .inl (11, 3) := by
  obtain ⟨T, h⟩ := lvB_par
  have hlen : lvB.length = 25 := by decide
  unfold parV
  rw [if_neg (by omega), h]
  rfl
theorem lv_rom : romF lvT.ps = fun i => (lvF i : Int) := by
  rw [romF_mkQ]
  funext i
  show layF (fun _ => 0) 8190 2 (byF [0, 224]) i = (lvF i : Int)
  unfold layF lvF
  by_cases h0 : i = 8190
  · subst h0
    rfl
  · by_cases h1 : i = 8191
    · subst h1
      rfl
    · rw [if_neg (by omega), if_neg h1]
      rfl
theorem lv_runs : runsP (fun i => (lvF i : Int)) 8192 = [(8191, 8192)] := by
  have h0 : runsP (fun i => (lvF i : Int)) (0 + 8191) = runsP (fun i => (lvF i : Int)) 0 := runs_zero 8191 fun j _ h => by
    show ((lvF j : Nat) : Int) = 0
    unfold lvF
    rw [if_neg (by omega)]
    rfl
  have h1 : runsP (fun i => (lvF i : Int)) 8191 = [] := h0
  show (if ((lvF 8191 : Nat) : Int) = 0 then _ else if 0 < 8191 ∧ ((lvF (8191 - 1) : Nat) : Int) ≠ 0 then _ else runsP (fun i => (lvF i : Int)) 8191 ++ [(8191, 8192)]) = _
  rw [if_neg (by decide), if_neg (by decide), h1]
  rfl
set_option maxRecDepth 100000 in
theorem lv_text : txT 8192 lvF 1 0 0 lvG lvE lvE 1 lvS (edLn lvT.ed) (edUp lvT.ed) 100 = lvC := by
  unfold txT txC txB
  rw [lv_runs]
  kernel_rfl
theorem lvF_lt (i : Nat) : lvF i < 256 := by unfold lvF; split <;> omega
theorem lvG_lt (i : Nat) : lvG i < 256 := by
  unfold lvG
  cases i with
  | zero => decide
  | succ i => simp
theorem lvE_lt (i : Nat) : lvE i < 256 := by unfold lvE; simp
theorem lv_num : numV [49, 50] = (12, 0) := by decide
theorem lv_line : lnW [32, 97, 32, 32, 98, 32] = [[97], [98]] := by kernel_rfl
theorem lv_kp : kp 6 (fun i => (lvS i : Int)) 1 = [] := by decide
end Go.Proofs.YtdhdknjefjolpaaDoor
end
section
/-
  A script by value, opened.
-/
namespace Go.Proofs.YtdhdknjefjolpaaDoor
set_option linter.unusedSimpArgs false
set_option linter.unusedVariables false
set_option maxRecDepth 10000
open Go.RowKit Pl
section
open Go.ChangeShapes Go.WideShapes Go.ChangeAt
variable {H : Type} {enc : TypeId × Value → H} {W : World} {base : Nat}
theorem field_nums {v : Value} {n : Nat} {y : DataW H × List MemPlace} (h : DataW.trod enc Tryd.prog W 0 (fun _ => true) true n 22 [v] = some y) :
    ∃ (o : Option Addr) (l c : Nat) (F : Nat → Nat), v = .slice o l c ∧ NumsAt W .u8 o l (fun i => (F i : Int)) ∧ (∀ i, F i < 256) ∧ l ≤ c ∧ c ≤ 9223372036854775807 ∧ ((∀ k ∈ y.1.weights Tryd.prog 22, k ≤ reachBytes) → l ≤ reachBytes) := by
  have hb1 : Tryd.prog.bytesOf 5 = 1 := by kernel_rfl
  rcases open_ints Tryd.underlying22 Tryd.underlying5 (by kernel_rfl) h with ⟨hcs, _⟩ | ⟨x, l, c, zs, hcs, _, hl, hm, hz, hy, hcell, hwz⟩
  · injection hcs with hcs
    subst hcs
    exact ⟨none, 0, 0, fun _ => 0, rfl, fun i hi => by omega, fun _ => by show (0 : Nat) < 256; omega, by omega, by omega, fun _ => by omega⟩
  · injection hcs with hcs
    subst hcs
    have hlen : l ≤ zs.length := by rw [hz]; split <;> omega
    have hbd : ∀ i, 0 ≤ zs.getD i 0 ∧ zs.getD i 0 < 256 := fun i => by
      rcases Nat.lt_or_ge i zs.length with hi | hi
      · have e : zs.getD i 0 = zs[i] := by simp [List.getD, hi]
        rw [e]
        have := bounds_u8 (hwz _ (List.getElem_mem hi))
        omega
      · have e : zs.getD i 0 = 0 := by simp [List.getD, hi]
        rw [e]
        omega
    refine ⟨some x, l, c, fun i => (zs.getD i 0).toNat, rfl, fun i hi => ?_, fun i => by have := hbd i; show (zs.getD i 0).toNat < 256; omega, hl, by unfold maxLen at hm; omega, fun hw => ?_⟩
    · have hci := hcell i (by omega)
      obtain ⟨b, off, spot⟩ := x
      have hspot : spot = none := by simpa [Addr.add] using World.cell?_spot (hcell 0 (by omega))
      subst hspot
      rw [add_plain] at hci
      refine ⟨b, off, rfl, cell_lt hci, ?_⟩
      show W.cell? _ = some (.int .u8 (((zs.getD i 0).toNat : Nat) : Int))
      rw [Int.toNat_of_nonneg (hbd i).1]
      exact hci
    · rw [hy] at hw
      have hw2 := hw ((zs.length) * Tryd.prog.bytesOf 5) (by
        unfold DataW.weights
        rw [Tryd.underlying22]
        refine List.mem_cons.2 (Or.inl ?_)
        congr 1
        simp [lits]
        omega)
      rw [hb1] at hw2
      omega
theorem field_edges {v : Value} {n : Nat} {y : DataW H × List MemPlace} (h : DataW.trod enc Tryd.prog W 0 (fun _ => true) true n 25 [v] = some y) :
    ∃ (o : Option Addr) (l c : Nat) (St : Nat → Int) (Ln : Nat → Nat) (Up : Nat → Bool), v = .slice o l c ∧ EdgB W o l St Ln Up W.heap.size ∧ l ≤ c ∧ c ≤ maxLen ∧ (∀ i, i < l → -9223372036854775808 ≤ St i ∧ St i ≤ 9223372036854775807 ∧ Ln i < 256) ∧ ((∀ k ∈ y.1.weights Tryd.prog 25, k ≤ reachBytes) → l * 16 ≤ reachBytes) := by
  have hb1 : Tryd.prog.bytesOf 31 = 16 := by kernel_rfl
  obtain ⟨a, l, c, hv⟩ : ∃ a l c, v = .slice a l c := by
    rcases DataW.trod_slice Tryd.underlying25 h with ⟨hcs, _⟩ | ⟨x, l, c, elems, rest, n, _, hcs, _⟩
    · injection hcs with hcs; exact ⟨_, _, _, hcs⟩
    · injection hcs with hcs; exact ⟨_, _, _, hcs⟩
  subst hv
  rcases open_slice_fields Tryd.underlying25 Tryd.underlying31 (by kernel_rfl) (by kernel_rfl) h with ⟨hcs, _⟩ | ⟨x, l', c', m, D, Pl, hcs, _, hl, hm, hmm, hy, hi⟩
  · injection hcs with hcs
    injection hcs with h1 h2 h3
    subst h1 h2 h3
    exact ⟨none, 0, 0, fun _ => 0, fun _ => 0, fun _ => false, rfl, fun i hi => by omega, Nat.le_refl _, by simp [maxLen], fun i hi => by omega, fun _ => by omega⟩
  · injection hcs with hcs
    injection hcs with h1 h2 h3
    subst h1 h2 h3
    have hlen : l ≤ m := by rw [hmm]; split <;> omega
    have hm3 : l ≤ m := hlen
    have key : ∀ i, i < l → ∃ (s : Int) (yv : Nat) (u : Bool) (b off : Nat), x = ⟨b, off, none⟩ ∧ W.cell? ⟨b, off + i * 3, none⟩ = some (.int .i64 s) ∧ W.cell? ⟨b, off + i * 3 + 1, none⟩ = some (.int .u8 (yv : Int)) ∧ W.cell? ⟨b, off + i * 3 + 2, none⟩ = some (.bool u) ∧ -9223372036854775808 ≤ s ∧ s ≤ 9223372036854775807 ∧ yv < 256 := fun i hil => by
      obtain ⟨ys, n', _, _, _, hh⟩ := hi i (by omega)
      obtain ⟨v0, y0, c0, _, t0⟩ := hh 0 _ rfl
      obtain ⟨v1, y1, c1, _, t1⟩ := hh 1 _ rfl
      obtain ⟨v2, y2, c2, _, t2⟩ := hh 2 _ rfl
      obtain ⟨s, rfl, s1, s2⟩ := field_i64 Tryd.underlying2 t0
      obtain ⟨yv, rfl, yb⟩ := field_u8 Tryd.underlying5 t1
      obtain ⟨u, rfl⟩ := field_bool Tryd.underlying4 t2
      obtain ⟨b, off, spot⟩ := x
      have hspot : spot = none := by
        obtain ⟨_, _, _, _, _, hh0⟩ := hi 0 (by omega)
        obtain ⟨_, _, c00, _⟩ := hh0 0 _ rfl
        simpa [Addr.add] using World.cell?_spot c00
      subst hspot
      rw [add_plain] at c0 c1 c2
      exact ⟨s, yv, u, b, off, rfl, c0, c1, c2, s1, s2, yb⟩
    obtain ⟨St, hSt⟩ : ∃ St : Nat → Int, ∀ i (h : i < l), St i = (key i h).choose := ⟨fun i => if h : i < l then (key i h).choose else 0, fun i h => by dsimp only; rw [dif_pos h]⟩
    obtain ⟨Ln, hLn⟩ : ∃ Ln : Nat → Nat, ∀ i (h : i < l), Ln i = (key i h).choose_spec.choose := ⟨fun i => if h : i < l then (key i h).choose_spec.choose else 0, fun i h => by dsimp only; rw [dif_pos h]⟩
    obtain ⟨Up, hUp⟩ : ∃ Up : Nat → Bool, ∀ i (h : i < l), Up i = (key i h).choose_spec.choose_spec.choose := ⟨fun i => if h : i < l then (key i h).choose_spec.choose_spec.choose else false, fun i h => by dsimp only; rw [dif_pos h]⟩
    refine ⟨some x, l, c, St, Ln, Up, rfl, fun i hil => ?_, hl, hm, fun i hil => ?_, fun hw => ?_⟩
    · obtain ⟨b, off, hx, c0, c1, c2, _⟩ := (key i hil).choose_spec.choose_spec.choose_spec
      rw [← hSt i hil] at c0
      rw [← hLn i hil] at c1
      rw [← hUp i hil] at c2
      exact ⟨b, off, by rw [hx], cell_lt c0, c0, c1, c2⟩
    · obtain ⟨b, off, hx, _, _, _, b1, b2, b3⟩ := (key i hil).choose_spec.choose_spec.choose_spec
      rw [hSt i hil, hLn i hil]
      exact ⟨b1, b2, b3⟩
    · rw [hy] at hw
      have hw2 := hw ((((List.range l).map D).length + ((List.range (m - l)).map fun j => D (l + j)).length) * Tryd.prog.bytesOf 31) (by
        unfold DataW.weights
        rw [Tryd.underlying25]
        exact List.mem_cons.2 (Or.inl rfl))
      rw [hb1] at hw2
      simp only [List.length_map, List.length_range] at hw2
      omega
structure ScrIn (W : World) (o o0 o1 o2 oe : Option Addr) (n c l0 c0 l1 c1 l2 c2 ne ce : Nat) (F F0 F1 F2 : Nat → Nat) (St : Nat → Int) (Ln : Nat → Nat) (Up : Nat → Bool) : Prop where
  f : NumsAt W .u8 o n (fun i => (F i : Int))
  f0 : NumsAt W .u8 o0 l0 (fun i => (F0 i : Int))
  f1 : NumsAt W .u8 o1 l1 (fun i => (F1 i : Int))
  f2 : NumsAt W .u8 o2 l2 (fun i => (F2 i : Int))
  b : ∀ i, F i < 256
  b0 : ∀ i, F0 i < 256
  b1 : ∀ i, F1 i < 256
  b2 : ∀ i, F2 i < 256
  e : EdgB W oe ne St Ln Up W.heap.size
  hc : n ≤ c ∧ c ≤ 9223372036854775807
  hc0 : l0 ≤ c0 ∧ c0 ≤ 9223372036854775807
  hc1 : l1 ≤ c1 ∧ c1 ≤ 9223372036854775807
  hc2 : l2 ≤ c2 ∧ c2 ≤ 9223372036854775807
  hce : ne ≤ ce ∧ ce ≤ maxLen
  hs : ∀ i, i < ne → -9223372036854775808 ≤ St i ∧ St i ≤ 9223372036854775807 ∧ Ln i < 256
theorem sized_agg {P : Program} {ts : List TypeId} {ds parts : List (DataW H)} {j : Nat} {t : TypeId} {fs : Array Field} (h : (DataW.weightsEach P ts ds).all (· ≤ reachBytes) = true) (ht : ts[j]? = some t) (hd : ds[j]? = some (.agg parts)) (hu : P.underlying t = some (.struct fs)) :
    (DataW.weightsEach P (fs.toList.map (·.type)) parts).all (· ≤ reachBytes) = true := by
  rw [List.all_eq_true] at h ⊢
  intro k hk
  refine h k (DataW.weights_mem_each ht hd k ?_)
  unfold DataW.weights
  rw [hu]
  exact hk
theorem sized_part {P : Program} {ts : List TypeId} {ds : List (DataW H)} {j : Nat} {t : TypeId} {d : DataW H} (h : (DataW.weightsEach P ts ds).all (· ≤ reachBytes) = true) (ht : ts[j]? = some t) (hd : ds[j]? = some d) : ∀ k ∈ d.weights P t, k ≤ reachBytes := fun k hk => by
  rw [List.all_eq_true] at h
  simpa using h k (DataW.weights_mem_each ht hd k hk)
theorem open_script {v : Value} {d : DataW H} {p : List MemPlace} (hv : Value.okWide Tryd.prog W .any base 27 v) (hd : DataW.Trod enc Tryd.prog W 0 (fun _ => true) true 27 v d p) :
    ∃ (o o0 o1 o2 oe : Option Addr) (n c l0 c0 l1 c1 l2 c2 ne ce : Nat) (bud : Int) (F F0 F1 F2 : Nat → Nat) (St : Nat → Int) (Ln : Nat → Nat) (Up : Nat → Bool), v = .agg #[.slice o n c, .slice o0 l0 c0, .slice o1 l1 c1, .slice o2 l2 c2, .slice oe ne ce, .int .i64 bud] ∧ ScrIn W o o0 o1 o2 oe n c l0 c0 l1 c1 l2 c2 ne ce F F0 F1 F2 St Ln Up ∧ -9223372036854775808 ≤ bud ∧ bud ≤ 9223372036854775807 ∧
      (∀ (ts : List TypeId) (ds : List (DataW H)) (j : Nat), (DataW.weightsEach Tryd.prog ts ds).all (· ≤ reachBytes) = true → ts[j]? = some 27 → ds[j]? = some d → n ≤ reachBytes ∧ l0 ≤ reachBytes ∧ l1 ≤ reachBytes ∧ l2 ≤ reachBytes ∧ ne * 16 ≤ reachBytes) := by
  have ht := Tryd.underlying27
  unfold Value.okWide at hv
  simp only [ht] at hv
  obtain ⟨cs, rfl, hsz, _⟩ := hv
  obtain ⟨fuel, hf⟩ := hd
  rw [show (Value.agg cs).cells = cs from rfl] at hf
  obtain ⟨ys, n', hn', hy, hlen, hyl, hfs⟩ := DataW.trod_struct ht hf
  have hC : Tryd.prog.cellsOf 27 = 6 := by kernel_rfl
  have k1 : Tryd.prog.cellsOf 22 = 1 := by kernel_rfl
  have k2 : Tryd.prog.cellsOf 24 = 3 := by kernel_rfl
  have k3 : Tryd.prog.cellsOf 25 = 1 := by kernel_rfl
  have k4 : Tryd.prog.cellsOf 2 = 1 := by kernel_rfl
  rw [hC] at hsz
  obtain ⟨L⟩ := cs
  simp only [List.size_toArray] at hsz
  match L, hsz with
  | [x0, x1, x2, x3, x4, x5], _ =>
    have hys : ∀ i, i < 4 → ∃ y, ys[i]? = some y := fun i hi => ⟨_, List.getElem?_eq_getElem (by rw [hyl]; exact hi)⟩
    obtain ⟨y0, hy0⟩ := hys 0 (by omega)
    obtain ⟨y1, hy1⟩ := hys 1 (by omega)
    obtain ⟨y2, hy2⟩ := hys 2 (by omega)
    obtain ⟨y3, hy3⟩ := hys 3 (by omega)
    have g0 := hfs 0 _ rfl
    have g1 := hfs 1 _ rfl
    have g2 := hfs 2 _ rfl
    have g3 := hfs 3 _ rfl
    rw [hy0] at g0
    rw [hy1] at g1
    rw [hy2] at g2
    rw [hy3] at g3
    have g0 : DataW.trod enc Tryd.prog W 0 (fun _ => true) true n' 22 ([x0, x1, x2, x3, x4, x5].take (Tryd.prog.cellsOf 22)) = some y0 := g0
    have g1 : DataW.trod enc Tryd.prog W 0 (fun _ => true) true n' 24 ([x1, x2, x3, x4, x5].take (Tryd.prog.cellsOf 24)) = some y1 := g1
    have g2 : DataW.trod enc Tryd.prog W 0 (fun _ => true) true n' 25 ([x4, x5].take (Tryd.prog.cellsOf 25)) = some y2 := g2
    have g3 : DataW.trod enc Tryd.prog W 0 (fun _ => true) true n' 2 ([x5].take (Tryd.prog.cellsOf 2)) = some y3 := g3
    rw [k1] at g0
    rw [k2] at g1
    rw [k3] at g2
    rw [k4] at g3
    obtain ⟨o, n, c, F, rfl, f, fb, fc, fm, fw⟩ := field_nums g0
    obtain ⟨oe, ne, ce, St, Ln, Up, rfl, e, ec, em, es, ew⟩ := field_edges g2
    obtain ⟨bud, rfl, bb1, bb2⟩ := field_i64 Tryd.underlying2 g3
    obtain ⟨zs, m', hm', hz, hzl, hzs, hff⟩ := DataW.trod_struct Tryd.underlying24 g1
    have hzz : ∀ i, i < 3 → ∃ y, zs[i]? = some y := fun i hi => ⟨_, List.getElem?_eq_getElem (by rw [hzs]; exact hi)⟩
    obtain ⟨z0, hz0⟩ := hzz 0 (by omega)
    obtain ⟨z1, hz1⟩ := hzz 1 (by omega)
    obtain ⟨z2, hz2⟩ := hzz 2 (by omega)
    have q0 := hff 0 _ rfl
    have q1 := hff 1 _ rfl
    have q2 := hff 2 _ rfl
    rw [hz0] at q0
    rw [hz1] at q1
    rw [hz2] at q2
    have q0 : DataW.trod enc Tryd.prog W 0 (fun _ => true) true m' 22 ([x1, x2, x3].take (Tryd.prog.cellsOf 22)) = some z0 := q0
    have q1 : DataW.trod enc Tryd.prog W 0 (fun _ => true) true m' 22 ([x2, x3].take (Tryd.prog.cellsOf 22)) = some z1 := q1
    have q2 : DataW.trod enc Tryd.prog W 0 (fun _ => true) true m' 22 ([x3].take (Tryd.prog.cellsOf 22)) = some z2 := q2
    rw [k1] at q0 q1 q2
    obtain ⟨o0, l0, c0, F0, rfl, f0, fb0, fc0, fm0, fw0⟩ := field_nums q0
    obtain ⟨o1, l1, c1, F1, rfl, f1, fb1, fc1, fm1, fw1⟩ := field_nums q1
    obtain ⟨o2, l2, c2, F2, rfl, f2, fb2, fc2, fm2, fw2⟩ := field_nums q2
    refine ⟨o, o0, o1, o2, oe, n, c, l0, c0, l1, c1, l2, c2, ne, ce, bud, F, F0, F1, F2, St, Ln, Up, rfl, ⟨f, f0, f1, f2, fb, fb0, fb1, fb2, e, ⟨fc, fm⟩, ⟨fc0, fm0⟩, ⟨fc1, fm1⟩, ⟨fc2, fm2⟩, ⟨ec, em⟩, es⟩, bb1, bb2, fun ts ds j hw hts hds => ?_⟩
    have hd1 : d = .agg (ys.map (·.1)) := (Prod.mk.inj hy).1
    rw [hd1] at hds
    have hs1 := sized_agg hw hts hds ht
    have hz1' : y1.1 = .agg (zs.map (·.1)) := by rw [hz]
    have m0 : (ys.map (·.1))[0]? = some y0.1 := by rw [List.getElem?_map, hy0]; rfl
    have m1 : (ys.map (·.1))[1]? = some y1.1 := by rw [List.getElem?_map, hy1]; rfl
    have m2 : (ys.map (·.1))[2]? = some y2.1 := by rw [List.getElem?_map, hy2]; rfl
    rw [hz1'] at m1
    have hs2 := sized_agg (j := 1) hs1 rfl m1 Tryd.underlying24
    have w0 : (zs.map (·.1))[0]? = some z0.1 := by rw [List.getElem?_map, hz0]; rfl
    have w1 : (zs.map (·.1))[1]? = some z1.1 := by rw [List.getElem?_map, hz1]; rfl
    have w2 : (zs.map (·.1))[2]? = some z2.1 := by rw [List.getElem?_map, hz2]; rfl
    exact ⟨fw (sized_part (j := 0) hs1 rfl m0), fw0 (sized_part (j := 0) hs2 rfl w0), fw1 (sized_part (j := 1) hs2 rfl w1), fw2 (sized_part (j := 2) hs2 rfl w2), ew (sized_part (j := 2) hs1 rfl m2)⟩
end
end Go.Proofs.YtdhdknjefjolpaaDoor
end
section
/-
  gannetlaw33: live.
-/
namespace Go.Proofs.YtdhdknjefjolpaaDoor
set_option linter.unusedSimpArgs false
set_option linter.unusedVariables false
set_option maxRecDepth 10000
open Go.RowKit Go.Shelf Pl
theorem run_eql_fault (a b : Int) (w : World) : (binOp .eql 34 (.agg #[.int .i64 a, .int .i64 b]) (.agg #[.int .i64 a, .int .i64 b])).run Tryd.prog w = .ok (.bool true) w := by
  have hu : Tryd.prog.underlying 34 = some (.struct (Tryd.prog.fieldsOf 34)) := by kernel_rfl
  have hp : Tryd.prog.stoodInHeld 34 = false := by kernel_rfl
  have h1 : ∀ w, (isAgg 32).run Tryd.prog w = .ok false w := fun w => by simp [isAgg, run_underlying Tryd.underlying32]
  have h2 : ∀ w, (isAgg 3).run Tryd.prog w = .ok false w := fun w => by simp [isAgg, run_underlying Tryd.underlying3]
  rw [run_eql_struct, run_equalIn_agg w 9999 34 _ _ hu hp]
  simp only [Program.fieldsOf, Tryd.underlying34]
  simp [Op.eqFields, part, h1, h2, run_equalIn_int _ _ 32 _ _ _ _ Tryd.underlying32, run_equalIn_int _ _ 3 _ _ _ _ Tryd.underlying3]
theorem run_eql_edge (a b : Int) (u : Bool) (w : World) : (binOp .eql 31 (.agg #[.int .i64 a, .int .u8 b, .bool u]) (.agg #[.int .i64 a, .int .u8 b, .bool u])).run Tryd.prog w = .ok (.bool true) w := by
  have hu : Tryd.prog.underlying 31 = some (.struct (Tryd.prog.fieldsOf 31)) := by kernel_rfl
  have hp : Tryd.prog.stoodInHeld 31 = false := by kernel_rfl
  have h1 : ∀ w, (isAgg 2).run Tryd.prog w = .ok false w := fun w => by simp [isAgg, run_underlying Tryd.underlying2]
  have h2 : ∀ w, (isAgg 5).run Tryd.prog w = .ok false w := fun w => by simp [isAgg, run_underlying Tryd.underlying5]
  have h3 : ∀ w, (isAgg 4).run Tryd.prog w = .ok false w := fun w => by simp [isAgg, run_underlying Tryd.underlying4]
  rw [run_eql_struct, run_equalIn_agg w 9999 31 _ _ hu hp]
  simp only [Program.fieldsOf, Tryd.underlying31]
  simp [Op.eqFields, part, h1, h2, h3, run_equalIn_bool' _ _ _ _ _ Tryd.underlying4, run_equalIn_int _ _ 2 _ _ _ _ Tryd.underlying2, run_equalIn_int _ _ 5 _ _ _ _ Tryd.underlying5]
/-- What Parse makes of live's text. -/
def LvAt (W : World) (o o0 o1 o2 oe : Option Addr) (c c0 c1 c2 : Nat) : Prop := NumsAt W .u8 o 8192 (fun i => (lvF i : Int)) ∧ NumsAt W .u8 o0 1 (fun i => (lvG i : Int)) ∧ NumsAt W .u8 o1 0 (fun i => (lvE i : Int)) ∧ NumsAt W .u8 o2 0 (fun i => (lvE i : Int)) ∧ EdgB W oe 1 (fun i => (lvS i : Int)) (edLn lvT.ed) (edUp lvT.ed) W.heap.size ∧ (8192 ≤ c ∧ c ≤ 9223372036854775807) ∧ (1 ≤ c0 ∧ c0 ≤ 9223372036854775807) ∧ (0 ≤ c1 ∧ c1 ≤ 9223372036854775807) ∧ (0 ≤ c2 ∧ c2 ≤ 9223372036854775807)
theorem LvAt.low {W W' : World} {o o0 o1 o2 oe : Option Addr} {c c0 c1 c2 : Nat} (h : LvAt W o o0 o1 o2 oe c c0 c1 c2) (hb : Below W.heap.size W W') : LvAt W' o o0 o1 o2 oe c c0 c1 c2 :=
  ⟨h.1.below hb (Nat.le_refl _), h.2.1.below hb (Nat.le_refl _), h.2.2.1.below hb (Nat.le_refl _), h.2.2.2.1.below hb (Nat.le_refl _), h.2.2.2.2.1.low hb |>.mono hb.size, h.2.2.2.2.2⟩
theorem lvParse (M : Int) (w : World) (hM : w.cell? ⟨0, 0, none⟩ = some (.int .i64 M)) : Calls Tryd.prog 12 #[.string ⟨#[35, 32, 97, 32, 114, 117, 110, 10, 112, 97, 103, 101, 115, 32, 49, 10, 114, 111, 109, 32, 48, 48, 49, 70, 70, 69, 32, 48, 48, 32, 69, 48, 10, 118, 100, 99, 32, 48, 53, 10, 117, 112, 32, 55, 32, 105, 114, 113, 49, 10, 98, 117, 100, 103, 101, 116, 32, 49, 48, 48, 10]⟩] w fun e w' => ∃ o o0 o1 o2 oe c c0 c1 c2 ce, e = .returned (.tuple #[.agg #[Value.slice o 8192 c, Value.slice o0 1 c0, Value.slice o1 0 c1, Value.slice o2 0 c2, Value.slice oe 1 ce, Value.int .i64 100], .agg #[Value.int .i64 0, Value.int .i64 0]]) ∧ LvAt w' o o0 o1 o2 oe c c0 c1 c2 ∧ Below w.heap.size w w' := by
  have h := pParse_calls lvA M w (by rw [show lvA.length = 61 by decide]; unfold maxLen; omega) hM
  rw [lvA_val] at h
  refine Calls.mono h ?_
  rintro e w' ⟨hb, o, c, o0, c0, o1, c1, o2, c2, oe, ce, h0, h1, h2, h3, h4, h5, h6, h7, h8⟩
  refine ⟨o, o0, o1, o2, oe, c, c0, c1, c2, ce, h0, ⟨?_, h2, h3, h4, h5, ⟨h7, by unfold maxLen at h8; omega⟩, h6.2.1, h6.2.2.1, h6.2.2.2⟩, hb⟩
  rw [lv_rom] at h1
  exact h1
theorem lvParseB (M : Int) (w : World) (hM : w.cell? ⟨0, 0, none⟩ = some (.int .i64 M)) : Calls Tryd.prog 12 #[.string ⟨#[112, 97, 103, 101, 115, 32, 49, 10, 98, 117, 100, 103, 101, 116, 32, 49, 10, 112, 97, 103, 101, 115, 32, 50, 10]⟩] w fun e w' => e = .returned (.tuple #[.agg #[Value.slice none 0 0, .slice none 0 0, .slice none 0 0, .slice none 0 0, .slice none 0 0, .int .i64 0], .agg #[Value.int .i64 11, Value.int .i64 3]]) ∧ Below w.heap.size w w' := by
  have h := pParse_calls lvB M w (by rw [show lvB.length = 25 by decide]; unfold maxLen; omega) hM
  rw [lvB_val] at h
  refine Calls.mono h ?_
  rintro e w' ⟨hb, h0⟩
  exact ⟨h0, hb⟩
theorem lvText {o o0 o1 o2 oe : Option Addr} {c c0 c1 c2 : Nat} (ce : Nat) (w : World) (h : LvAt w o o0 o1 o2 oe c c0 c1 c2) : Calls Tryd.prog 14 #[.agg #[Value.slice o 8192 c, Value.slice o0 1 c0, Value.slice o1 0 c1, Value.slice o2 0 c2, Value.slice oe 1 ce, Value.int .i64 100]] w fun e w' => e = .returned (.tuple #[.string ⟨#[112, 97, 103, 101, 115, 32, 49, 10, 114, 111, 109, 32, 48, 48, 49, 70, 70, 70, 32, 69, 48, 10, 118, 100, 99, 32, 48, 53, 10, 117, 112, 32, 55, 32, 105, 114, 113, 49, 10, 98, 117, 100, 103, 101, 116, 32, 49, 48, 48, 10]⟩, .agg #[Value.int .i64 0, Value.int .i64 0]]) ∧ Below w.heap.size w w' := by
  obtain ⟨h1, h2, h3, h4, h5, h6, h7, h8, h9⟩ := h
  have g1 : ∀ i, i < 1 → lvS i ≤ 9223372036854775807 := fun i hi => by
    obtain rfl : i = 0 := by omega
    decide
  have g2 : ∀ i, i < 1 → edLn lvT.ed i < 4 := fun i hi => by
    obtain rfl : i = 0 := by omega
    decide
  have ht := text_calls o o0 o1 o2 oe 8192 c 1 c0 0 c1 0 c2 1 ce 100 lvF lvG lvE lvE lvS (edLn lvT.ed) (edUp lvT.ed) w (by omega) (by omega) (by omega) (by omega) (by omega) h6 h7 h8 h9 lvF_lt lvG_lt lvE_lt lvE_lt h1 h2 h3 h4 h5 g1 g2 lv_chk lv_ok (by omega)
  rw [lv_text] at ht
  exact ht
theorem lvCheck {o o0 o1 o2 oe : Option Addr} {c c0 c1 c2 : Nat} (ce : Nat) (w : World) (h : LvAt w o o0 o1 o2 oe c c0 c1 c2) : Calls Tryd.prog 9 #[.agg #[Value.slice o 8192 c, Value.slice o0 1 c0, Value.slice o1 0 c1, Value.slice o2 0 c2, Value.slice oe 1 ce, Value.int .i64 100]] w fun e w' => e = .returned (.agg #[Value.int .i64 0, Value.int .i64 0]) ∧ Below w.heap.size w w' := by
  have ht := sCheck_calls o o0 o1 o2 oe 8192 c 1 c0 0 c1 0 c2 1 ce ((100 : Nat) : Int) (fun i => (lvS i : Int)) (edLn lvT.ed) (edUp lvT.ed) w (by unfold maxLen; omega) h.2.2.2.2.1
  rw [lv_chk] at ht
  exact ht
theorem lvUntil {o o0 o1 o2 oe : Option Addr} {c c0 c1 c2 : Nat} (ce : Nat) (w : World) (h : LvAt w o o0 o1 o2 oe c c0 c1 c2) : Calls Tryd.prog 8 #[.agg #[Value.slice o 8192 c, Value.slice o0 1 c0, Value.slice o1 0 c1, Value.slice o2 0 c2, Value.slice oe 1 ce, Value.int .i64 100], .int .i64 6] w fun e w' => ∃ p p0 p1 p2 pe d d0 d1 d2 de, e = .returned (.agg #[Value.slice p 8192 d, Value.slice p0 1 d0, Value.slice p1 0 d1, Value.slice p2 0 d2, Value.slice pe 0 de, Value.int .i64 100]) ∧ Below w.heap.size w w' := by
  obtain ⟨h1, h2, h3, h4, h5, _⟩ := h
  have ht := until_calls o o0 o1 o2 oe 8192 c 1 c0 0 c1 0 c2 1 ce 100 6 (fun i => (lvF i : Int)) (fun i => (lvG i : Int)) (fun i => (lvE i : Int)) (fun i => (lvE i : Int)) (fun i => (lvS i : Int)) (edLn lvT.ed) (edUp lvT.ed) w (by omega) (by omega) (by omega) (by omega) (by omega) h1 h2 h3 h4 h5
  rw [lv_kp] at ht
  refine ht.mono ?_
  rintro e w' ⟨p, p0, p1, p2, pe, d, d0, d1, d2, de, h0, _, _, _, _, _, hb⟩
  exact ⟨p, p0, p1, p2, pe, d, d0, d1, d2, de, h0, hb⟩
theorem lvLine (M : Int) (w : World) (hM : w.cell? ⟨0, 0, none⟩ = some (.int .i64 M)) : Calls Tryd.prog 16 #[.string ⟨#[32, 97, 32, 32, 98, 32]⟩] w fun e w' => ∃ a k, e = .returned (.slice a 2 k) ∧ Below w.heap.size w w' := by
  have h := line_calls [32, 97, 32, 32, 98, 32] M w (by decide) hM
  rw [lv_line] at h
  refine Calls.mono h ?_
  rintro e w' ⟨v, rfl, ho, hb⟩
  obtain ⟨o, k, hv, _⟩ := WsAt.of_row ho
  exact ⟨o, k, by rw [hv]; rfl, hb⟩
theorem lvNumber (w : World) : Calls Tryd.prog 18 #[.string ⟨#[49, 50]⟩] w fun e w' => e = .returned (.tuple #[.int .i64 12, .int .i64 0]) ∧ Below w.heap.size w w' := by
  have h := num_calls ⟨#[49, 50]⟩ w
  rw [show (⟨#[49, 50]⟩ : ByteArray).data.toList = [49, 50] from rfl, lv_num] at h
  exact h
end Go.Proofs.YtdhdknjefjolpaaDoor
end
section
/-
  gannetlaw33: live, walked.
-/
namespace Go.Proofs.YtdhdknjefjolpaaDoor
set_option linter.unusedSimpArgs false
set_option linter.unusedVariables false
set_option maxRecDepth 10000
open Go.RowKit Go.Shelf Pl
set_option maxRecDepth 100000 in
set_option maxHeartbeats 16000000 in
theorem live33_calls (M : Int) (w : World) (hM : w.cell? ⟨0, 0, none⟩ = some (.int .i64 M)) :
    Calls Tryd.prog 7 #[] w fun e w' => e = .returned (.bool true) ∧ Below w.heap.size w w' := by
  have hPA := lvParse M w hM
  have hMl : (⟨0, 0, none⟩ : Addr).block < w.heap.size := cell_lt hM
  go_enter Tryd.func7, Tryd.ntmps7
  go_wp2_with fail
  with_reducible refine hPA.mono ?_
  clear hPA
  rintro e w1 ⟨o, o0, o1, o2, oe, c, c0, c1, c2, ce, rfl, hL1, hb1⟩
  have hM1 := (hb1.cell (p := ⟨0, 0, none⟩) hMl).trans hM
  have hs1 := hb1.size
  have hZ : Blk ((w1.alloc (.cells #[Value.slice none 0 0, .slice none 0 0, .slice none 0 0, .slice none 0 0, .slice none 0 0, .int .i64 0] 27)).alloc (.cells #[Value.int .i64 0, Value.int .i64 0] 34)) w1.heap.size 27 #[Value.slice none 0 0, .slice none 0 0, .slice none 0 0, .slice none 0 0, .slice none 0 0, .int .i64 0] := (Blk.new _ _ _).alloc _
  have hF : Blk ((w1.alloc (.cells #[Value.slice none 0 0, .slice none 0 0, .slice none 0 0, .slice none 0 0, .slice none 0 0, .int .i64 0] 27)).alloc (.cells #[Value.int .i64 0, Value.int .i64 0] 34)) (w1.heap.size + 1) 34 #[Value.int .i64 0, Value.int .i64 0] := Blk.newAt (by simp)
  have hF8 := hF.setRow_far (g' := w1.heap.size) (by omega) #[Value.slice o 8192 c, Value.slice o0 1 c0, Value.slice o1 0 c1, Value.slice o2 0 c2, Value.slice oe 1 ce, Value.int .i64 100]
  have hS8 : Blk ((((w1.alloc (.cells #[Value.slice none 0 0, .slice none 0 0, .slice none 0 0, .slice none 0 0, .slice none 0 0, .int .i64 0] 27)).alloc (.cells #[Value.int .i64 0, Value.int .i64 0] 34)).setRow w1.heap.size #[Value.slice o 8192 c, Value.slice o0 1 c0, Value.slice o1 0 c1, Value.slice o2 0 c2, Value.slice oe 1 ce, Value.int .i64 100]).setRow (w1.heap.size + 1) #[Value.int .i64 0, Value.int .i64 0]) w1.heap.size 27 #[Value.slice o 8192 c, Value.slice o0 1 c0, Value.slice o1 0 c1, Value.slice o2 0 c2, Value.slice oe 1 ce, Value.int .i64 100] := (hZ.setRow #[Value.slice o 8192 c, Value.slice o0 1 c0, Value.slice o1 0 c1, Value.slice o2 0 c2, Value.slice oe 1 ce, Value.int .i64 100]).setRow_far (by omega) _
  have HF9 : Hid (Blk ((((w1.alloc (.cells #[Value.slice none 0 0, .slice none 0 0, .slice none 0 0, .slice none 0 0, .slice none 0 0, .int .i64 0] 27)).alloc (.cells #[Value.int .i64 0, Value.int .i64 0] 34)).setRow w1.heap.size #[Value.slice o 8192 c, Value.slice o0 1 c0, Value.slice o1 0 c1, Value.slice o2 0 c2, Value.slice oe 1 ce, Value.int .i64 100]).setRow (w1.heap.size + 1) #[Value.int .i64 0, Value.int .i64 0]) (w1.heap.size + 1) 34 #[Value.int .i64 0, Value.int .i64 0]) := hF8.setRow #[Value.int .i64 0, Value.int .i64 0]
  have HB2 : Hid (Below w1.heap.size w1 ((((w1.alloc (.cells #[Value.slice none 0 0, .slice none 0 0, .slice none 0 0, .slice none 0 0, .slice none 0 0, .int .i64 0] 27)).alloc (.cells #[Value.int .i64 0, Value.int .i64 0] 34)).setRow w1.heap.size #[Value.slice o 8192 c, Value.slice o0 1 c0, Value.slice o1 0 c1, Value.slice o2 0 c2, Value.slice oe 1 ce, Value.int .i64 100]).setRow (w1.heap.size + 1) #[Value.int .i64 0, Value.int .i64 0])) := below_setRow (below_setRow (Bl.alloc (Bl.alloc (Below.refl _ _) _) _) (Nat.le_refl _) _) (by omega) _
  have HL := hide hL1
  have HM := hide hM
  have HB1 := hide hb1
  have HM1 := hide hM1
  clear hL1 hM hb1 hM1
  go_wp2_with (first | (refine wpList_store_row rfl 27 _ _ rfl w1.heap.size #[Value.slice o 8192 c, Value.slice o0 1 c0, Value.slice o1 0 c1, Value.slice o2 0 c2, Value.slice oe 1 ce, Value.int .i64 100] rfl rfl 27 _ hZ (by kernel_rfl) rfl (by kernel_rfl) ?_) | (refine wpList_store_row rfl 34 _ _ rfl (w1.heap.size + 1) #[Value.int .i64 0, Value.int .i64 0] rfl rfl 34 _ hF8 (by kernel_rfl) rfl (by kernel_rfl) ?_) | (refine wpList_load_row rfl 27 _ rfl w1.heap.size rfl _ #[Value.slice o 8192 c, Value.slice o0 1 c0, Value.slice o1 0 c1, Value.slice o2 0 c2, Value.slice oe 1 ce, Value.int .i64 100] (0, 0) _ hS8 Tryd.underlying27 rfl (by kernel_rfl) ?_))
  have hL2 := HL.out.low HB2.out
  have hM2 := (HB2.out.cell (p := ⟨0, 0, none⟩) (Nat.lt_of_lt_of_le hMl hs1)).trans HM1.out
  have hB02 := HB1.out.trans (HB2.out.mono HB1.out.size)
  have hF9 := HF9.out
  clear hZ hF hF8 HF9 HB2 HL HM1
  generalize (((w1.alloc (.cells #[Value.slice none 0 0, .slice none 0 0, .slice none 0 0, .slice none 0 0, .slice none 0 0, .int .i64 0] 27)).alloc (.cells #[Value.int .i64 0, Value.int .i64 0] 34)).setRow w1.heap.size #[Value.slice o 8192 c, Value.slice o0 1 c0, Value.slice o1 0 c1, Value.slice o2 0 c2, Value.slice oe 1 ce, Value.int .i64 100]).setRow (w1.heap.size + 1) #[Value.int .i64 0, Value.int .i64 0] = w2 at *
  generalize w1.heap.size = g1 at *
  with_reducible refine (lvText ce _ hL2).mono ?_
  rintro e w3 ⟨rfl, hb3⟩
  have hS3 : Blk w3 g1 27 #[Value.slice o 8192 c, Value.slice o0 1 c0, Value.slice o1 0 c1, Value.slice o2 0 c2, Value.slice oe 1 ce, Value.int .i64 100] := hS8.below hb3 hS8.lt
  have hF3 : Blk w3 (g1 + 1) 34 #[Value.int .i64 0, Value.int .i64 0] := hF9.below hb3 hF9.lt
  have hL3 := hL2.low hb3
  have hM3 := (hb3.cell (p := ⟨0, 0, none⟩) (cell_lt hM2)).trans hM2
  have hB03 := hB02.trans (hb3.mono hB02.size)
  have hZ4 : Blk (w3.alloc (.cells #[Value.int .i64 0, Value.int .i64 0] 34)) w3.heap.size 34 #[Value.int .i64 0, Value.int .i64 0] := Blk.new _ _ _
  have hb4 : Below w3.heap.size w3 (w3.alloc (.cells #[Value.int .i64 0, Value.int .i64 0] 34)) := Bl.alloc (Below.refl _ _) _
  have hS4 : Blk (w3.alloc (.cells #[Value.int .i64 0, Value.int .i64 0] 34)) g1 27 #[Value.slice o 8192 c, Value.slice o0 1 c0, Value.slice o1 0 c1, Value.slice o2 0 c2, Value.slice oe 1 ce, Value.int .i64 100] := hS3.alloc _
  have hF4 : Blk (w3.alloc (.cells #[Value.int .i64 0, Value.int .i64 0] 34)) (g1 + 1) 34 #[Value.int .i64 0, Value.int .i64 0] := hF3.alloc _
  have hL4 := hL3.low hb4
  have hM4 := (hb4.cell (p := ⟨0, 0, none⟩) (cell_lt hM3)).trans hM3
  have hB04 := hB03.trans (hb4.mono hB03.size)
  have sR := setRow_new w3 #[Value.int .i64 0, Value.int .i64 0] #[Value.int .i64 0, Value.int .i64 0] 34
  clear hS8 hF9 hL2 hM2 hB02 hb3 hS3 hF3 hL3 hM3 hB03 hb4
  go_wp2_with (first | (refine wpList_store_row rfl 34 _ _ rfl w3.heap.size #[Value.int .i64 0, Value.int .i64 0] rfl rfl 34 _ hZ4 (by kernel_rfl) rfl (by kernel_rfl) ?_; rw [sR]))
  clear sR
  generalize w3.alloc (.cells #[Value.int .i64 0, Value.int .i64 0] 34) = w3a at *
  generalize w3.heap.size = g3 at *
  with_reducible refine (lvParseB M _ hM4).mono ?_
  rintro e w4 ⟨rfl, hb5⟩
  have hS5 : Blk w4 g1 27 #[Value.slice o 8192 c, Value.slice o0 1 c0, Value.slice o1 0 c1, Value.slice o2 0 c2, Value.slice oe 1 ce, Value.int .i64 100] := hS4.below hb5 hS4.lt
  have hF5 : Blk w4 (g1 + 1) 34 #[Value.int .i64 0, Value.int .i64 0] := hF4.below hb5 hF4.lt
  have hZ5 : Blk w4 g3 34 #[Value.int .i64 0, Value.int .i64 0] := hZ4.below hb5 hZ4.lt
  have hL5 := hL4.low hb5
  have hM5 := (hb5.cell (p := ⟨0, 0, none⟩) (cell_lt hM4)).trans hM4
  have hB05 := hB04.trans (hb5.mono hB04.size)
  clear hS4 hF4 hZ4 hL4 hM4 hB04 hb5
  have hX : Blk ((w4.alloc (.cells #[Value.slice none 0 0, .slice none 0 0, .slice none 0 0, .slice none 0 0, .slice none 0 0, .int .i64 0] 27)).alloc (.cells #[Value.int .i64 0, Value.int .i64 0] 34)) w4.heap.size 27 #[Value.slice none 0 0, .slice none 0 0, .slice none 0 0, .slice none 0 0, .slice none 0 0, .int .i64 0] := (Blk.new _ _ _).alloc _
  have hY : Blk ((w4.alloc (.cells #[Value.slice none 0 0, .slice none 0 0, .slice none 0 0, .slice none 0 0, .slice none 0 0, .int .i64 0] 27)).alloc (.cells #[Value.int .i64 0, Value.int .i64 0] 34)) (w4.heap.size + 1) 34 #[Value.int .i64 0, Value.int .i64 0] := Blk.newAt (by simp)
  have hY8 := hY.setRow_far (g' := w4.heap.size) (by omega) #[Value.slice none 0 0, .slice none 0 0, .slice none 0 0, .slice none 0 0, .slice none 0 0, .int .i64 0]
  have HY9 : Hid (Blk ((((w4.alloc (.cells #[Value.slice none 0 0, .slice none 0 0, .slice none 0 0, .slice none 0 0, .slice none 0 0, .int .i64 0] 27)).alloc (.cells #[Value.int .i64 0, Value.int .i64 0] 34)).setRow w4.heap.size #[Value.slice none 0 0, .slice none 0 0, .slice none 0 0, .slice none 0 0, .slice none 0 0, .int .i64 0]).setRow (w4.heap.size + 1) #[Value.int .i64 11, Value.int .i64 3]) (w4.heap.size + 1) 34 #[Value.int .i64 11, Value.int .i64 3]) := hY8.setRow #[Value.int .i64 11, Value.int .i64 3]
  have HB6 : Hid (Below w4.heap.size w4 ((((w4.alloc (.cells #[Value.slice none 0 0, .slice none 0 0, .slice none 0 0, .slice none 0 0, .slice none 0 0, .int .i64 0] 27)).alloc (.cells #[Value.int .i64 0, Value.int .i64 0] 34)).setRow w4.heap.size #[Value.slice none 0 0, .slice none 0 0, .slice none 0 0, .slice none 0 0, .slice none 0 0, .int .i64 0]).setRow (w4.heap.size + 1) #[Value.int .i64 11, Value.int .i64 3])) := below_setRow (below_setRow (Bl.alloc (Bl.alloc (Below.refl _ _) _) _) (Nat.le_refl _) _) (by omega) _
  clear hY
  go_wp2_with (first | (refine wpList_store_row rfl 27 _ _ rfl w4.heap.size #[Value.slice none 0 0, .slice none 0 0, .slice none 0 0, .slice none 0 0, .slice none 0 0, .int .i64 0] rfl rfl 27 _ hX (by kernel_rfl) rfl (by kernel_rfl) ?_) | (refine wpList_store_row rfl 34 _ _ rfl (w4.heap.size + 1) #[Value.int .i64 11, Value.int .i64 3] rfl rfl 34 _ hY8 (by kernel_rfl) rfl (by kernel_rfl) ?_))
  have hS6 : Blk ((((w4.alloc (.cells #[Value.slice none 0 0, .slice none 0 0, .slice none 0 0, .slice none 0 0, .slice none 0 0, .int .i64 0] 27)).alloc (.cells #[Value.int .i64 0, Value.int .i64 0] 34)).setRow w4.heap.size #[Value.slice none 0 0, .slice none 0 0, .slice none 0 0, .slice none 0 0, .slice none 0 0, .int .i64 0]).setRow (w4.heap.size + 1) #[Value.int .i64 11, Value.int .i64 3]) g1 27 #[Value.slice o 8192 c, Value.slice o0 1 c0, Value.slice o1 0 c1, Value.slice o2 0 c2, Value.slice oe 1 ce, Value.int .i64 100] := hS5.below HB6.out hS5.lt
  have hF6 : Blk ((((w4.alloc (.cells #[Value.slice none 0 0, .slice none 0 0, .slice none 0 0, .slice none 0 0, .slice none 0 0, .int .i64 0] 27)).alloc (.cells #[Value.int .i64 0, Value.int .i64 0] 34)).setRow w4.heap.size #[Value.slice none 0 0, .slice none 0 0, .slice none 0 0, .slice none 0 0, .slice none 0 0, .int .i64 0]).setRow (w4.heap.size + 1) #[Value.int .i64 11, Value.int .i64 3]) (g1 + 1) 34 #[Value.int .i64 0, Value.int .i64 0] := hF5.below HB6.out hF5.lt
  have hZ6 : Blk ((((w4.alloc (.cells #[Value.slice none 0 0, .slice none 0 0, .slice none 0 0, .slice none 0 0, .slice none 0 0, .int .i64 0] 27)).alloc (.cells #[Value.int .i64 0, Value.int .i64 0] 34)).setRow w4.heap.size #[Value.slice none 0 0, .slice none 0 0, .slice none 0 0, .slice none 0 0, .slice none 0 0, .int .i64 0]).setRow (w4.heap.size + 1) #[Value.int .i64 11, Value.int .i64 3]) g3 34 #[Value.int .i64 0, Value.int .i64 0] := hZ5.below HB6.out hZ5.lt
  have hL6 := hL5.low HB6.out
  have hM6 := (HB6.out.cell (p := ⟨0, 0, none⟩) (cell_lt hM5)).trans hM5
  have hB06 := hB05.trans (HB6.out.mono hB05.size)
  have hY6 := HY9.out
  clear hS5 hF5 hZ5 hL5 hM5 hB05 hX hY8 HY9 HB6
  generalize (((w4.alloc (.cells #[Value.slice none 0 0, .slice none 0 0, .slice none 0 0, .slice none 0 0, .slice none 0 0, .int .i64 0] 27)).alloc (.cells #[Value.int .i64 0, Value.int .i64 0] 34)).setRow w4.heap.size #[Value.slice none 0 0, .slice none 0 0, .slice none 0 0, .slice none 0 0, .slice none 0 0, .int .i64 0]).setRow (w4.heap.size + 1) #[Value.int .i64 11, Value.int .i64 3] = w5 at *
  generalize w4.heap.size = g4 at *
  with_reducible refine (lvNumber _).mono ?_
  rintro e w6 ⟨rfl, hb7⟩
  have hS : Blk w6 g1 27 #[Value.slice o 8192 c, Value.slice o0 1 c0, Value.slice o1 0 c1, Value.slice o2 0 c2, Value.slice oe 1 ce, Value.int .i64 100] := hS6.below hb7 hS6.lt
  have hF2 : Blk w6 (g1 + 1) 34 #[Value.int .i64 0, Value.int .i64 0] := hF6.below hb7 hF6.lt
  have hF4 : Blk w6 g3 34 #[Value.int .i64 0, Value.int .i64 0] := hZ6.below hb7 hZ6.lt
  have hF6' : Blk w6 (g4 + 1) 34 #[Value.int .i64 11, Value.int .i64 3] := hY6.below hb7 hY6.lt
  have hL := hL6.low hb7
  have hM7 := (hb7.cell (p := ⟨0, 0, none⟩) (cell_lt hM6)).trans hM6
  have hB07 := hB06.trans (hb7.mono hB06.size)
  clear hS6 hF6 hZ6 hY6 hL6 hM6 hB06 hb7
  have HL := hide hL
  obtain ⟨br, fr, rfl, _, hrc⟩ := hL.1 8191 (by omega)
  have hrc : w6.cell? ⟨br, fr + 8191, none⟩ = some (.int .u8 224) := hrc
  obtain ⟨be, fe, rfl, _, hec⟩ := hL.2.2.2.2.1 0 (by omega)
  have hrg : w6.rangeAt be fe [.int .i64 7, .int .u8 2, .bool true] := by
    intro j v hv
    match j, hv with
    | 0, hv => cases hv; exact hec.1
    | 1, hv => cases hv; exact hec.2.1
    | 2, hv => cases hv; exact hec.2.2
  have s0 : w6.cell? ⟨g1, 0, none⟩ = some (.slice (some ⟨br, fr, none⟩) 8192 c) := hS.cell 0
  have s1 : w6.cell? ⟨g1, 1, none⟩ = some (.slice o0 1 c0) := hS.cell 1
  have s4 : w6.cell? ⟨g1, 4, none⟩ = some (.slice (some ⟨be, fe, none⟩) 1 ce) := hS.cell 4
  have s5 : w6.cell? ⟨g1, 5, none⟩ = some (.int .i64 100) := hS.cell 5
  have hq := run_eql_fault
  have hqe := run_eql_edge
  clear hL hec
  have u0 : w6.cell? ⟨g1 + 1, 0, none⟩ = some (.int .i64 0) := hF2.cell 0
  have u1 : w6.cell? ⟨g1 + 1, 1, none⟩ = some (.int .i64 0) := hF2.cell 1
  have u2 : w6.cell? ⟨g3, 0, none⟩ = some (.int .i64 0) := hF4.cell 0
  have u3 : w6.cell? ⟨g3, 1, none⟩ = some (.int .i64 0) := hF4.cell 1
  have u4 : w6.cell? ⟨g4 + 1, 0, none⟩ = some (.int .i64 11) := hF6'.cell 0
  have u5 : w6.cell? ⟨g4 + 1, 1, none⟩ = some (.int .i64 3) := hF6'.cell 1
  have s2 : w6.cell? ⟨g1, 2, none⟩ = some (.slice o1 0 c1) := hS.cell 2
  have s3 : w6.cell? ⟨g1, 3, none⟩ = some (.slice o2 0 c2) := hS.cell 3
  have r0 : w6.cell? ⟨be, fe, none⟩ = some (.int .i64 7) := hrg 0 _ rfl
  have r1 : w6.cell? ⟨be, fe + 1, none⟩ = some (.int .u8 2) := hrg 1 _ rfl
  have r2 : w6.cell? ⟨be, fe + 2, none⟩ = some (.bool true) := hrg 2 _ rfl
  have hc8 : (8191 : Int) < 8192 := by omega
  clear hrg
  go_wp2_with fail
  with_reducible refine (lvCheck ce _ HL.out).mono ?_
  rintro e w7 ⟨rfl, hb8⟩
  have hS7 : Blk w7 g1 27 #[Value.slice (some ⟨br, fr, none⟩) 8192 c, Value.slice o0 1 c0, Value.slice o1 0 c1, Value.slice o2 0 c2, Value.slice (some ⟨be, fe, none⟩) 1 ce, Value.int .i64 100] := hS.below hb8 hS.lt
  have HL7 : Hid (LvAt w7 (some ⟨br, fr, none⟩) o0 o1 o2 (some ⟨be, fe, none⟩) c c0 c1 c2) := HL.out.low hb8
  have hM8 := (hb8.cell (p := ⟨0, 0, none⟩) (cell_lt hM7)).trans hM7
  have hB08 := hB07.trans (hb8.mono hB07.size)
  clear hS hF2 hF4 hF6' HL hM7 hB07 hb8 hrc s0 s1 s2 s3 s4 s5 u0 u1 u2 u3 u4 u5 r0 r1 r2
  go_wp2_with fail
  with_reducible refine (lvLine M _ hM8).mono ?_
  rintro e w8 ⟨la, lk, rfl, hb9⟩
  have hS8 : Blk w8 g1 27 #[Value.slice (some ⟨br, fr, none⟩) 8192 c, Value.slice o0 1 c0, Value.slice o1 0 c1, Value.slice o2 0 c2, Value.slice (some ⟨be, fe, none⟩) 1 ce, Value.int .i64 100] := hS7.below hb9 hS7.lt
  have HL8 : Hid (LvAt w8 (some ⟨br, fr, none⟩) o0 o1 o2 (some ⟨be, fe, none⟩) c c0 c1 c2) := HL7.out.low hb9
  have hB09 := hB08.trans (hb9.mono hB08.size)
  clear hS7 HL7 hM8 hB08 hb9
  have s0 : w8.cell? ⟨g1, 0, none⟩ = some (.slice (some ⟨br, fr, none⟩) 8192 c) := hS8.cell 0
  have s1 : w8.cell? ⟨g1, 1, none⟩ = some (.slice o0 1 c0) := hS8.cell 1
  have s2 : w8.cell? ⟨g1, 2, none⟩ = some (.slice o1 0 c1) := hS8.cell 2
  have s3 : w8.cell? ⟨g1, 3, none⟩ = some (.slice o2 0 c2) := hS8.cell 3
  have s4 : w8.cell? ⟨g1, 4, none⟩ = some (.slice (some ⟨be, fe, none⟩) 1 ce) := hS8.cell 4
  have s5 : w8.cell? ⟨g1, 5, none⟩ = some (.int .i64 100) := hS8.cell 5
  go_wp2_with fail
  with_reducible refine (lvUntil ce _ HL8.out).mono ?_
  rintro e w9 ⟨p, p0, p1, p2, pe, d, d0, d1, d2, de, rfl, hb10⟩
  have hB10 := hB09.trans (hb10.mono hB09.size)
  have hfd : ∀ W, (Instr.field 27 (.agg #[Value.slice p 8192 d, Value.slice p0 1 d0, Value.slice p1 0 d1, Value.slice p2 0 d2, Value.slice pe 0 de, Value.int .i64 100]) 2).run Tryd.prog W = .ok (.slice pe 0 de) W := fun W => by kernel_rfl
  clear hS8 HL8 hB09 hb10
  go_wp2_with fail
  go_ret
  exact ⟨rfl, hB10⟩
end Go.Proofs.YtdhdknjefjolpaaDoor
end
