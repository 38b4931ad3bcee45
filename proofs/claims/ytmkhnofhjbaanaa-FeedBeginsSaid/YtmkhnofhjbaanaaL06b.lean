/-
  gannetlaw06: FeedBegins.
-/
import Derived.Test.YtmkhnofhjbaanaaL06
namespace Go.Proofs.Ytmkhnofhjbaanaa
open Go.RowKit

def catV (L : Nat → Int) (n : Nat) (A : Nat → Int) : Nat → Int := fun i => if i < n then L i else A (i - n)
theorem cat_get (L A : Nat → Int) (n m i : Nat) (h : i < n + m) : (lst8 L n ++ lst8 A m).getD i 0 = catV L n A i := by
  unfold catV lst8
  by_cases hi : i < n
  · rw [if_pos hi]; simp [List.getD, List.getElem?_append_left, hi]
  · rw [if_neg hi]
    have : i - n < m := by omega
    simp [List.getD, List.getElem?_append_right (show ((List.range n).map L).length ≤ i by simp; omega), this]
theorem news_at {w : World} {o : Option Addr} {n : Nat} {L : Nat → Int} (hL : NumsAt w .u8 o n L) {a : Addr} (ha : o = some a) (j : Nat) (u : Int) (hu : (lst8 L n)[j]? = some u) {w' : World} (hw : ∀ b, b < w.heap.size → ∀ q, w'.cell? ⟨b, q, none⟩ = w.cell? ⟨b, q, none⟩) :
    w'.cell? (a.add j) = some (.int .u8 u) := by
  have hj : j < n := by
    have := (List.getElem?_eq_some_iff.1 hu).1
    simpa [lst8] using this
  obtain ⟨b, off, hb, hlt, hc⟩ := hL j hj
  rw [ha] at hb
  injection hb with hb
  subst hb
  have e : u = L j := by simpa [lst8, hj, eq_comm] using hu
  rw [add_plain, e, hw b hlt]
  exact hc
theorem feedBeginsNo_calls (o oa ob : Option Addr) (n m k c ca cb : Nat) (w : World) (h : 1000 < n ∨ 1000 < m ∨ 1000 < k) :
    Calls Try.prog 4 #[.slice o n c, .slice oa m ca, .slice ob k cb] w fun e w' => e = .returned (.bool true) ∧ Below w.heap.size w w' := by
  by_cases h1 : 1000 < n
  · have i1 : (1000 : Int) < (n : Int) := by omega
    clear h
    go_enter Try.func4, Try.ntmps4
    (go_wp2_with fail; refine Cl.m (live06_calls _) ?_; intro w1 hb1)
    (go_wp2_with fail; go_ret; exact ⟨rfl, by (repeat (first | exact Below.refl _ _ | assumption | refine Below.drew ?_ | refine Bl.alloc ?_ _ | refine below_drewN ?_ _ | refine Bl.chain ?_ (by assumption) (Nat.le_refl _)))⟩)
  · have i1 : (decide ((1000 : Int) < (n : Int))) = false := by rw [decide_eq_false_iff_not]; omega
    by_cases h2 : 1000 < m
    · have i2 : (1000 : Int) < (m : Int) := by omega
      clear h h1
      go_enter Try.func4, Try.ntmps4
      (go_wp2_with fail; refine Cl.m (live06_calls _) ?_; intro w1 hb1)
      (go_wp2_with fail; go_ret; exact ⟨rfl, by (repeat (first | exact Below.refl _ _ | assumption | refine Below.drew ?_ | refine Bl.alloc ?_ _ | refine below_drewN ?_ _ | refine Bl.chain ?_ (by assumption) (Nat.le_refl _)))⟩)
    · have i2 : (decide ((1000 : Int) < (m : Int))) = false := by rw [decide_eq_false_iff_not]; omega
      have i3 : (1000 : Int) < (k : Int) := by omega
      clear h h1 h2
      go_enter Try.func4, Try.ntmps4
      (go_wp2_with fail; refine Cl.m (live06_calls _) ?_; intro w1 hb1)
      (go_wp2_with fail; go_ret; exact ⟨rfl, by (repeat (first | exact Below.refl _ _ | assumption | refine Below.drew ?_ | refine Bl.alloc ?_ _ | refine below_drewN ?_ _ | refine Bl.chain ?_ (by assumption) (Nat.le_refl _)))⟩)
theorem kept {w w' : World} (hb : Below w.heap.size w w') : ∀ b, b < w.heap.size → ∀ q, w'.cell? ⟨b, q, none⟩ = w.cell? ⟨b, q, none⟩ := fun b hlt q => hb.cell (p := ⟨b, q, none⟩) hlt
theorem news_map {w : World} {a : Addr} {n : Nat} {L : Nat → Int} (hL : NumsAt w .u8 (some a) n L) {w' : World} (hw : ∀ b, b < w.heap.size → ∀ q, w'.cell? ⟨b, q, none⟩ = w.cell? ⟨b, q, none⟩) :
    ∀ (j : Nat) (u : Value), (List.map (Value.int .u8) (lst8 L n))[j]? = some u → w'.cell? (a.add j) = some u := fun j u hu => by
  rw [List.getElem?_map] at hu
  obtain ⟨x, hx, rfl⟩ := Option.map_eq_some_iff.1 hu
  exact news_at hL rfl j x hx hw
theorem one_map (zs : List Int) : ∀ (u : Value), u ∈ List.map (Value.int .u8) zs → u.oneCell' = true := fun u hu => by
  obtain ⟨x, _, rfl⟩ := List.mem_map.1 hu
  rfl
theorem nx_cat (L A : Nat → Int) (n m k : Nat) (hk : k < n) : nxV (catV L n A) (n + m) k = L k := by
  unfold nxV catV
  rw [if_pos (by omega), if_pos hk]
/-- 'append(s, x...)' onto what the call owns, x a slice of bytes that came in, nil or not. -/
theorem wpList_append_nums {P : Program} (w : World) {ops : Array Oper} {rest : List Oper} {o : Oper} {a : Act} {Q : Exit → Act → World → Prop} (hgd : o.guard = none) (s x : Operand) (t : TypeId)
    (ho : o.op = .call { callee := .builtin .append, args := #[s, x], argTypes := #[t, t] })
    (base : Nat) (e : TypeId) (i : TypeInfo) (z : Value) (ht : P.underlying t = some (.slice e)) (hi : P.info? e = some i) (hz : i.zero = some z)
    (hsize : i.size = 1) (hby : i.bytes = 1) (hzs : z.cells.size = 1)
    (v : Value) (n : Nat) (xs : List Value) (hs : a.eval s = v) (hown : w.ownsRow base e 1 v n xs)
    (oa : Option Addr) (m c : Nat) (L : Nat → Int) (hx : a.eval x = .slice oa m c) (hno : oa = none → m = 0 ∧ c = 0)
    (hnews : ∀ ad, oa = some ad → ∀ (j : Nat) (u : Value), (List.map (Value.int .u8) (lst8 L m))[j]? = some u → w.cell? (ad.add j) = some u)
    (h63 : n + m ≤ maxLen) (hbytes : (n + m) * 1 ≤ 140737488355328) (hbase : base ≤ w.heap.size)
    (h : ∀ v' w', w'.ownsRow base e 1 v' (n + m) (xs ++ List.map (Value.int .u8) (lst8 L m)) → w.grownBy w' v.ownBlock → wpList P ops Q rest (a.put o.dst v') w') : wpList P ops Q (o :: rest) a w := by
  cases oa with
  | some ad =>
    exact wpList_append_own w hgd s x t ho base e i z 1 1 ht hi hz hsize hby hzs (by decide) v n xs hs hown ad m c (List.map (Value.int .u8) (lst8 L m)) hx (by simp [lst8]) (hnews ad rfl) (one_map _) h63 hbytes hbase fun v' w' h1 h2 _ => h v' w' h1 h2
  | none =>
    obtain ⟨rfl, rfl⟩ := hno rfl
    have hr := run_append_owned_none (P := P) (w := w) base t o.type e i 1 ht hi v n xs hown
    refine wpList_plain hgd fun K hK => ?_
    unfold Oper.wp execOp
    simp only [ho, resolve, invoke, builtin, Sem.run_bind, Sem.run_pure, Result.andThen_ok, List.map_toArray, List.map_cons, List.map_nil, hs, hx, hr]
    exact hK _ _ (h v w (by simpa [lst8] using hown) (World.grownBy.refl _ _))
set_option maxHeartbeats 4000000 in
theorem feedBeginsYes_calls (a aa ab : Option Addr) (n m k c ca cb : Nat) (L A B : Nat → Int) (w : World) (h1 : n ≤ 1000) (h2 : m ≤ 1000) (h3 : k ≤ 1000)
    (za : a = none → n = 0 ∧ c = 0) (zaa : aa = none → m = 0 ∧ ca = 0) (zab : ab = none → k = 0 ∧ cb = 0) (hL : NumsAt w .u8 a n L) (hA : NumsAt w .u8 aa m A) (hB : NumsAt w .u8 ab k B) :
    Calls Try.prog 4 #[.slice a n c, .slice aa m ca, .slice ab k cb] w fun e w' => e = .returned (.bool true) ∧ Below w.heap.size w w' := by
  obtain ⟨i0, hi, hz0, hz1, hz2⟩ := info_parts infoU8f
  have i1 : (decide ((1000 : Int) < (n : Int))) = false := by rw [decide_eq_false_iff_not]; omega
  have i2 : (decide ((1000 : Int) < (m : Int))) = false := by rw [decide_eq_false_iff_not]; omega
  have i3 : (decide ((1000 : Int) < (k : Int))) = false := by rw [decide_eq_false_iff_not]; omega
  go_enter Try.func4, Try.ntmps4
  (go_wp2_with fail; refine Cl.m (live06_calls _) ?_; intro w1 hb1)
  have hown0x := World.ownsRow_lit w1 (base := w1.heap.size) (e := 5) (size := 1) #[] 0 (Nat.le_refl _) (by decide) rfl
  go_wp2_with (at_builtin; refine wpList_append_nums _ rfl _ _ 22 rfl w1.heap.size 5 i0 (.int .u8 0) Try.underlying22 hi hz0 hz1 hz2 rfl _ _ _ rfl hown0x a n c L rfl za ?c1 ?c3 ?c4 ?c5 ?_)
  case c1 => rintro ad rfl; exact news_map hL (kept ((Bl.alloc hb1 _)))
  case c3 => unfold maxLen; omega
  case c4 => omega
  case c5 => simp
  intro v1x wax hown1x hgrow1x
  have hbax : Below w.heap.size w wax := (Bl.alloc hb1 _).grown hgrow1x (by have := (hb1).size; simp; omega) (fun j hj => by have := (hown0x.lt j hj).1; have := (hb1).size; omega)
  have hsax : w1.heap.size ≤ wax.heap.size := Nat.le_trans (by simp) hgrow1x.size
  go_wp2_with (at_builtin; refine wpList_append_nums _ rfl _ _ 22 rfl w1.heap.size 5 i0 (.int .u8 0) Try.underlying22 hi hz0 hz1 hz2 rfl _ _ _ rfl hown1x aa m ca A rfl zaa ?c1 ?c3 ?c4 ?c5 ?_)
  case c1 => rintro ad rfl; exact news_map hA (kept (hbax))
  case c3 => unfold maxLen; omega
  case c4 => omega
  case c5 => exact hsax
  intro v2x wbx hown2x hgrow2x
  have hbbx : Below w.heap.size w wbx := hbax.grown hgrow2x hbax.size (fun j hj => by have := (hown1x.lt j hj).1; have := (hb1).size; omega)
  rw [← List.map_append] at hown2x
  obtain ⟨o2x, c2x, rfl, hn2x⟩ := nums_of_own hown2x
  have hNx : NumsAt wbx .u8 o2x (n + m) (catV L n A) := fun j hj => by
    have := hn2x j hj
    dsimp only at this ⊢
    rwa [cat_get L A n m j hj] at this
  go_wp2_with fail
  refine (fdNew_calls o2x (n + m) _ (catV L n A) _ (by omega) (by first | exact hNx | (have := hNx; simpa using this))).mono ?_
  rintro e wcx ⟨gx, o3x, c3x, rfl, hFx, hNBx, hgx, hbcx⟩
  have hbdx : Below w.heap.size w wcx := hbbx.trans (hbcx.mono hbbx.size)
  have hown0y := World.ownsRow_lit wcx (base := wcx.heap.size) (e := 5) (size := 1) #[] 0 (Nat.le_refl _) (by decide) rfl
  go_wp2_with (at_builtin; refine wpList_append_nums _ rfl _ _ 22 rfl wcx.heap.size 5 i0 (.int .u8 0) Try.underlying22 hi hz0 hz1 hz2 rfl _ _ _ rfl hown0y a n c L rfl za ?c1 ?c3 ?c4 ?c5 ?_)
  case c1 => rintro ad rfl; exact news_map hL (kept ((Bl.alloc hbdx _)))
  case c3 => unfold maxLen; omega
  case c4 => omega
  case c5 => simp
  intro v1y way hown1y hgrow1y
  have hbay : Below w.heap.size w way := (Bl.alloc hbdx _).grown hgrow1y (by have := (hbdx).size; simp; omega) (fun j hj => by have := (hown0y.lt j hj).1; have := (hbdx).size; omega)
  have hsay : wcx.heap.size ≤ way.heap.size := Nat.le_trans (by simp) hgrow1y.size
  go_wp2_with (at_builtin; refine wpList_append_nums _ rfl _ _ 22 rfl wcx.heap.size 5 i0 (.int .u8 0) Try.underlying22 hi hz0 hz1 hz2 rfl _ _ _ rfl hown1y ab k cb B rfl zab ?c1 ?c3 ?c4 ?c5 ?_)
  case c1 => rintro ad rfl; exact news_map hB (kept (hbay))
  case c3 => unfold maxLen; omega
  case c4 => omega
  case c5 => exact hsay
  intro v2y wby hown2y hgrow2y
  have hbby : Below w.heap.size w wby := hbay.grown hgrow2y hbay.size (fun j hj => by have := (hown1y.lt j hj).1; have := (hbdx).size; omega)
  rw [← List.map_append] at hown2y
  obtain ⟨o2y, c2y, rfl, hn2y⟩ := nums_of_own hown2y
  have hNy : NumsAt wby .u8 o2y (n + k) (catV L n B) := fun j hj => by
    have := hn2y j hj
    dsimp only at this ⊢
    rwa [cat_get L B n k j hj] at this
  go_wp2_with fail
  refine (fdNew_calls o2y (n + k) _ (catV L n B) _ (by omega) (by first | exact hNy | (have := hNy; simpa using this))).mono ?_
  rintro e wcy ⟨gy, o3y, c3y, rfl, hFy, hNBy, hgy, hbcy⟩
  have hbdy : Below w.heap.size w wcy := hbby.trans (hbcy.mono hbby.size)
  have hlt : gx < gy := Nat.lt_of_lt_of_le hFx.lt (Nat.le_trans (Nat.le_trans hsay hgrow2y.size) hgy)
  have hFx1 : FB wcy gx o3x (n + m) c3x 0 := by
    have e1 : Below wcx.heap.size wcx wby := (((Below.refl wcx.heap.size wcx).alloc (Nat.le_refl _) _).grown hgrow1y (by simp) (fun j hj => (hown0y.lt j hj).1)).grown hgrow2y hsay (fun j hj => (hown1y.lt j hj).1)
    exact Blk.below (hFx.below e1 hFx.lt) hbcy (Nat.lt_of_lt_of_le hFx.lt e1.size)
  have e1 : Below wcx.heap.size wcx wcy := by
    have e1 : Below wcx.heap.size wcx wby := (((Below.refl wcx.heap.size wcx).alloc (Nat.le_refl _) _).grown hgrow1y (by simp) (fun j hj => (hown0y.lt j hj).1)).grown hgrow2y hsay (fun j hj => (hown1y.lt j hj).1)
    exact e1.trans (hbcy.mono e1.size)
  have hNx : NumsB wcy .u8 o3x (n + m) (catV L n A) gx := hNBx.only (S := fun _ => False) (Only.of e1) (fun _ _ h => h)
  have hLy : NumsB wcy .u8 a n L w.heap.size := (hL.toB (Nat.le_refl _)).only (S := fun _ => False) (Only.of hbdy) (fun _ _ h => h)
  have hgx : w.heap.size ≤ gx := Nat.le_trans hbbx.size hgx
  have hgy : w.heap.size ≤ gy := by omega
  clear hgrow1x hgrow2x hgrow1y hgrow2y hown0x hown1x hown2x hown0y hown1y hown2y hn2x hn2y
  have hNyAll : ∀ w', Only (fun b => b = gx ∨ b = gy) wcy w' → NumsB w' .u8 o3y (n + k) (catV L n B) gy := fun w' ho => by
    intro q hq
    obtain ⟨b, off, hb, hlt, hc⟩ := hNBy q hq
    refine ⟨b, off, hb, hlt, (World.cell?_of_block (ho.block b (cell_lt hc) ?_)).trans hc⟩
    rintro (rfl | rfl)
    · have h := (Blk.cell hFx1 (off + q)).symm.trans hc
      generalize off + q = z at h
      match z, h with
      | 0, h => simp at h
      | 1, h => simp at h
      | z + 2, h => simp at h
    · omega
  go_wp2_with fail
  go_loopw [9, 10] (fun i x wr => ∃ j : Nat, j ≤ n ∧ i = .int .i64 (j : Int) ∧ FB wr gx o3x (n + m) c3x j ∧ FB wr gy o3y (n + k) c3y j ∧ Only (fun b => b = gx ∨ b = gy) wcy wr) (fun i _ _ => n - (intOf i).toNat)
  case atStart => exact ⟨0, by omega, rfl, hFx1, hFy, Only.refl _ _⟩
  case round =>
    obtain ⟨j, hj, rfl, hF, hG, hor⟩ := hrel
    by_cases hjn : j < n
    · have hjn' : (j : Int) < (n : Int) := by omega
      have hne : gx ≠ gy := by omega
      have hNr := hNx.only hor (fun q hq e => by omega)
      have hLr := hLy.only hor (fun q hq e => by omega)
      have n1 := nx_cat L A n m j hjn
      have n2 := nx_cat L B n k j hjn
      obtain ⟨b, off, hab, hbl, hcb⟩ := hLr j hjn
      subst hab
      have N1 := hide n1
      have N2 := hide n2
      clear n1 n2
      have hbb : (L j != L j) = false := bne_self_eq_false _
      go_wp2_with fail
      refine (fdNext_calls gx o3x (n + m) c3x j (catV L n A) _ (by omega) (by omega) hF hNr).mono ?_
      rintro e w5 ⟨rfl, hF5, ho5⟩
      rw [N1.out]
      have hG5 := hG.only ho5 (fun e => hne e.symm)
      have hcb5 : w5.cell? ⟨b, off + j, none⟩ = some (.int .u8 (L j)) := (World.cell?_of_block (ho5.block b (cell_lt hcb) (by omega))).trans hcb
      have hor5 : Only (fun b => b = gx ∨ b = gy) wcy w5 := hor.trans (ho5.mono fun q _ e => Or.inl e)
      go_wp2_with fail
      refine (fdNext_calls gy o3y (n + k) c3y j (catV L n B) _ (by omega) (by omega) hG5 (hNyAll w5 hor5)).mono ?_
      rintro e w6 ⟨rfl, hG6, ho6⟩
      rw [N2.out]
      have hF6 := hF5.only ho6 hne
      go_wp2_with fail
      go_roundw
      case rel => exact ⟨j + 1, by omega, by go_num, hF6, hG6, hor5.trans (ho6.mono fun q _ e => Or.inr e)⟩
      case measure => simp [intOf]; omega
    · obtain rfl : j = n := by omega
      have hb7 : Below w.heap.size w wr := hbdy.trans ((hor.below hbdy.size (fun q e => by omega)))
      (go_wp2_with fail; refine Cl.m (fdLeft_calls gx o3x (j + m) c3x j _ (by omega) (by omega) hF) ?_; intro w5 hb5)
      rw [show j + m - j = m from by omega]
      (go_wp2_with fail; refine Cl.m (fdLeft_calls gy o3y (j + k) c3y j _ (by omega) (by omega) (hG.below hb5 hG.lt)) ?_; intro w6 hb6)
      rw [show j + k - j = k from by omega]
      (go_wp2_with fail; go_ret; exact ⟨rfl, by (repeat (first | exact Below.refl _ _ | assumption | refine Below.drew ?_ | refine Bl.alloc ?_ _ | refine below_drewN ?_ _ | refine Bl.chain ?_ (by assumption) (Nat.le_refl _)))⟩)
theorem feedBegins_calls (a aa ab : Option Addr) (n m k c ca cb : Nat) (L A B : Nat → Int) (w : World)
    (za : a = none → n = 0 ∧ c = 0) (zaa : aa = none → m = 0 ∧ ca = 0) (zab : ab = none → k = 0 ∧ cb = 0) (hL : NumsAt w .u8 a n L) (hA : NumsAt w .u8 aa m A) (hB : NumsAt w .u8 ab k B) :
    Calls Try.prog 4 #[.slice a n c, .slice aa m ca, .slice ab k cb] w fun e w' => e = .returned (.bool true) ∧ Below w.heap.size w w' := by
  by_cases h : 1000 < n ∨ 1000 < m ∨ 1000 < k
  · exact feedBeginsNo_calls a aa ab n m k c ca cb w h
  · exact feedBeginsYes_calls a aa ab n m k c ca cb L A B w (by omega) (by omega) (by omega) za zaa zab hL hA hB
section
open Go.ChangeShapes Go.WideShapes Go.ChangeAt
variable {H : Type} {enc : TypeId × Value → H} {W : World} {base : Nat}
theorem open_nums' {P : Program} {w : World} {spare : Nat → Bool} {held : Bool} {r : Reach} {b0 : Nat} {t e : TypeId} {k : IntKind} {v : Value} {d : DataW H} {ps : List MemPlace} (ht : P.underlying t = some (.slice e)) (he : P.underlying e = some (.int k)) (hc : P.cellsOf e = 1)
    (hv : Value.okWide P w r b0 t v) (hd : DataW.Trod enc P w base spare held t v d ps) :
    ∃ (a : Option Addr) (len cap : Nat) (g : Nat → Int), v = .slice a len cap ∧ NumsAt w k a len g ∧ (a = none → len = 0 ∧ cap = 0) := by
  obtain ⟨a, len, cap, g, rfl, hn, _, _, _⟩ := open_nums ht he hc hv hd
  refine ⟨a, len, cap, g, rfl, hn, ?_⟩
  rintro rfl
  obtain ⟨fuel, hf⟩ := hd
  rcases DataW.trod_slice ht hf with ⟨hcs, _⟩ | ⟨x, l, c, elems, rest, n, _, hcs, _⟩
  · simp [Value.cells] at hcs
    exact hcs
  · simp [Value.cells] at hcs
theorem walk_FeedBegins {v0 v1 v2 : Value} {d0 d1 d2 : DataW H} {p0 p1 p2 : List MemPlace}
    (_hsh : W.ShapedOpen Try.prog) (_hsz : (DataW.weightsEach Try.prog [22, 22, 22] [d0, d1, d2]).all (· ≤ reachBytes) = true)
    (hv0 : Value.okWide Try.prog W .any base 22 v0) (hd0 : DataW.Trod enc Try.prog W 0 (fun _ => true) true 22 v0 d0 p0) (hv1 : Value.okWide Try.prog W .any base 22 v1) (hd1 : DataW.Trod enc Try.prog W 0 (fun _ => true) true 22 v1 d1 p1) (hv2 : Value.okWide Try.prog W .any base 22 v2) (hd2 : DataW.Trod enc Try.prog W 0 (fun _ => true) true 22 v2 d2 p2) :
    Calls Try.prog 4 #[v0, v1, v2] W fun e W' => e = .returned (.bool true) ∧ Below W.heap.size W W' := by
  obtain ⟨a, n, c, L, rfl, hL, za⟩ := open_nums' Try.underlying22 Try.underlying5 (by kernel_rfl) hv0 hd0
  obtain ⟨aa, m, ca, A, rfl, hA, zaa⟩ := open_nums' Try.underlying22 Try.underlying5 (by kernel_rfl) hv1 hd1
  obtain ⟨ab, k, cb, B, rfl, hB, zab⟩ := open_nums' Try.underlying22 Try.underlying5 (by kernel_rfl) hv2 hd2
  exact feedBegins_calls a aa ab n m k c ca cb L A B W za zaa zab hL hA hB
end
end Go.Proofs.Ytmkhnofhjbaanaa
