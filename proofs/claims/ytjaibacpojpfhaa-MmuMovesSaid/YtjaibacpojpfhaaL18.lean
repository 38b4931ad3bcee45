/-
  gannetlaw18: live.
-/
import Derived.Test.YtjaibacpojpfhaaMmu4
namespace Go.Proofs.Ytjaibacpojpfhaa
open Go.RowKit Pl

theorem eqBk (A : Nat → Nat) (b : Nat → Int) (q : Bool) (h : ((List.range 8).all fun i => (A i : Int) == b i) = q) (W : World) :
    (binOp .eql 22 (.agg (bk8 A)) (.agg #[.int .u8 (b 0), .int .u8 (b 1), .int .u8 (b 2), .int .u8 (b 3), .int .u8 (b 4), .int .u8 (b 5), .int .u8 (b 6), .int .u8 (b 7)])).run Try.prog W = .ok (.bool q) W := by
  rw [← h]
  exact run_eql_ints 22 5 8 .u8 Try.underlying22 Try.underlying5 (fun _ => by kernel_rfl) (fun i => (A i : Int)) b W
def liv0 : Nat → Nat := fun i => if i = 1 then 248 else 0
def liv1 : Nat → Int := fun i => if i = 1 then 7 else if i = 7 then 7 else 0
set_option maxRecDepth 100000 in
set_option maxHeartbeats 8000000 in
theorem live18_calls (w : World) : Calls Try.prog 7 #[] w fun e w' => e = .returned (.bool true) ∧ Below w.heap.size w w' := by
  have hq1 : ∀ W, (binOp .eql 22 (.agg (bk8 (setK 130 7 liv0))) (.agg #[.int .u8 0, .int .u8 7, .int .u8 0, .int .u8 0, .int .u8 0, .int .u8 0, .int .u8 0, .int .u8 7])).run Try.prog W = .ok (.bool true) W := fun W => eqBk _ liv1 true (by decide +kernel) W
  have hq2 : ∀ W, (binOp .eql 22 (.agg (bk8 noA)) (.agg #[.int .u8 0, .int .u8 0, .int .u8 0, .int .u8 0, .int .u8 0, .int .u8 0, .int .u8 0, .int .u8 0])).run Try.prog W = .ok (.bool true) W := fun W => eqBk _ (fun _ => 0) true (by decide +kernel) W
  have hO : ∀ W, Calls Try.prog 8 #[.agg #[.int .u8 0, .int .u8 248, .int .u8 0, .int .u8 0, .int .u8 0, .int .u8 0, .int .u8 0, .int .u8 0], .int .u8 3] W fun e w' => ∃ g, e = .returned (.pointer (some ⟨g, 0, none⟩)) ∧ MB w' g liv0 3 ∧ W.heap.size ≤ g ∧ Below W.heap.size W w' := fun W => mmOf_calls 3 liv0 W
  have hg0 : getK 0 liv0 3 = 3 := by decide +kernel
  have hg1 : getK 0 (setK 130 7 liv0) 7 = 7 := by decide +kernel
  have hl0 : ∀ i, i < 8 → liv0 i < 256 := by unfold liv0; intro i _; split <;> omega
  go_enter Try.func7, Try.ntmps7
  go_wp2_with fail
  refine (hO _).mono ?_
  rintro e w1 ⟨g, rfl, hM1, hg, hb1⟩
  go_wp2_with fail
  refine (mmNew_calls _).mono ?_
  rintro e w2 ⟨gn, rfl, hb2⟩
  have hM2 : MB w2 g liv0 3 := Blk.below hM1 hb2 hM1.lt
  have hb02 : Below w.heap.size w w2 := hb1.trans (hb2.mono hb1.size)
  go_wp2_with fail
  refine Cl.m (mmPhys_calls g 3 8197 liv0 _ (by omega) hl0 hM2) ?_
  intro w3 hb3
  have hM3 : MB w3 g liv0 3 := Blk.below hM2 hb3 hM2.lt
  have hb03 : Below w.heap.size w w3 := hb02.trans (hb3.mono hb02.size)
  have e3 : ((adr (liv0 (8197 / 8192)) 8197 : Nat) : Int) = 2031621 := by decide +kernel
  rw [e3]
  go_wp2_with fail
  refine (mmGet_calls g 0 3 liv0 _ (by omega) hM3).mono ?_
  rintro e w4 ⟨rfl, hM4, ho4⟩
  rw [hg0] at hM4 ⊢
  have hb04 : Below w.heap.size w w4 := hb03.trans (ho4.below hb03.size (fun j e => by omega))
  go_wp2_with fail
  refine (mmSet_calls g 130 7 3 liv0 _ (by omega) hM4).mono ?_
  rintro e w5 ⟨⟨_, rfl⟩, hM5, ho5⟩
  have hb05 : Below w.heap.size w w5 := hb04.trans (ho5.below hb04.size (fun j e => by omega))
  go_wp2_with fail
  refine (mmGet_calls g 0 7 (setK 130 7 liv0) _ (by omega) hM5).mono ?_
  rintro e w6 ⟨rfl, hM6, ho6⟩
  rw [hg1] at hM6 ⊢
  have hb06 : Below w.heap.size w w6 := hb05.trans (ho6.below hb05.size (fun j e => by omega))
  go_wp2_with fail
  refine (nilSet_calls 1 1 _).mono ?_
  rintro e w7 ⟨⟨_, rfl⟩, hb7⟩
  have hM7 : MB w7 g (setK 130 7 liv0) 7 := Blk.below hM6 hb7 hM6.lt
  have hb07 : Below w.heap.size w w7 := hb06.trans (hb7.mono hb06.size)
  go_wp2_with fail
  refine (nilReset_calls _).mono ?_
  rintro e w8 ⟨⟨_, rfl⟩, rfl⟩
  have hPt := mmPort_calls 1 w7
  have hPt : Calls Try.prog 20 #[.int .i64 1] w7 fun e w' => e = .returned (.tuple #[.int .u32 2088962, .bool true]) ∧ Below w7.heap.size w7 w' := hPt
  go_wp2_with fail
  refine Cl.m hPt ?_
  intro w9 hb9
  have hM9 : MB w9 g (setK 130 7 liv0) 7 := Blk.below hM7 hb9 hM7.lt
  have hb09 : Below w.heap.size w w9 := hb07.trans (hb9.mono hb07.size)
  go_wp2_with fail
  refine Cl.m (mmBanks_calls g 7 _ _ hM9) ?_
  intro wa hba
  have hMa : MB wa g (setK 130 7 liv0) 7 := Blk.below hM9 hba hM9.lt
  have hb0a : Below w.heap.size w wa := hb09.trans (hba.mono hb09.size)
  go_wp2_with fail
  refine Cl.p (mmLast_calls g 7 _ _ hMa) ?_
  (go_wp2_with fail; refine Cl.m (nilPhys_calls _) ?_; intro wb hbb)
  have hb0b : Below w.heap.size w wb := hb0a.trans (hbb.mono hb0a.size)
  (go_wp2_with fail; refine Cl.m (nilGet_calls 1 _) ?_; intro wc hbc)
  have hb0c : Below w.heap.size w wc := hb0b.trans (hbc.mono hb0b.size)
  (go_wp2_with fail; refine Cl.p (nilClone_calls _) ?_)
  (go_wp2_with fail; refine Cl.p (nilLast_calls _) ?_)
  go_wp2_with fail
  refine (mmSeen_calls (.pointer none) 0 noA _ (by omega) (fun W _ => nilBanks_calls W)).mono ?_
  rintro e wd ⟨v, rfl, hown, hbd⟩
  have hb0d : Below w.heap.size w wd := hb0c.trans (hbd.mono hb0c.size)
  obtain ⟨ao, co, rfl, _⟩ := nums_of_own hown
  have hlen : (sL noA 0 8).length = 8 := by decide +kernel
  rw [hlen]
  clear hown
  (go_wp2_with fail; refine Cl.m (nilBanks_calls _) ?_; intro we hbe)
  have hb0e : Below w.heap.size w we := hb0d.trans (hbe.mono hb0d.size)
  (go_wp2_with fail; refine Cl.p (mmZero_calls 5 _ (by omega)) ?_)
  (go_wp2_with fail; refine Cl.p (mmStack_calls 255 _ (by omega)) ?_)
  go_wp2_with fail
  go_ret
  exact ⟨rfl, hb0e⟩
end Go.Proofs.Ytjaibacpojpfhaa
