/-
  Package logic: all of it but Chain.
-/
import Derived.Test.YtbnpjmmgnijjlaaTac
import Derived.Test.YtbnpjmmgnijjlaaBlog
import Derived.Test.YtbnpjmmgnijjlaaOct
import Derived.Test.YtbnpjmmgnijjlaaFlags2
import Derived.Test.YtbnpjmmgnijjlaaOdig
namespace Go.Proofs.Ytbnpjmmgnijjlaa
open Go.RowKit Pl

/-- A byte, and the flags behind it. -/
def bf (r p : Nat) : Value := .tuple #[.int .u8 (r : Int), .int .u8 (p : Int)]

theorem lgResult_calls (r p : Nat) (w : World) (hr : r < 256) (hp : p < 256) :
    Calls Try.prog 28 #[.int .u8 (r : Int), .int .u8 (p : Int)] w fun e w' => e = .returned (bf r (fres p r)) ∧ w = w' := by
  go_enter Try.func28, Try.ntmps28
  (go_wp2_with fail; refine Cl.p (flResult_calls p r _ hp hr) ?_)
  go_wp2_with fail
  go_ret2
  exact ⟨rfl, rfl⟩

theorem lgAnd_calls (a b p : Nat) (w : World) (ha : a < 256) (hb : b < 256) (hp : p < 256) :
    Calls Try.prog 7 #[.int .u8 (a : Int), .int .u8 (b : Int), .int .u8 (p : Int)] w fun e w' => e = .returned (bf (a &&& b) (fres p (a &&& b))) ∧ w = w' := by
  have hop : bits .and .u8 (a : Int) (b : Int) = ((a &&& b : Nat) : Int) := u8_and_nat a b ha hb
  go_enter Try.func7, Try.ntmps7
  (go_wp2_with fail; refine Cl.p (lgResult_calls (a &&& b) p _ (and_lt hb) hp) ?_)
  unfold bf
  go_wp2_with fail
  go_ret2
  exact ⟨rfl, rfl⟩

theorem lgOr_calls (a b p : Nat) (w : World) (ha : a < 256) (hb : b < 256) (hp : p < 256) :
    Calls Try.prog 8 #[.int .u8 (a : Int), .int .u8 (b : Int), .int .u8 (p : Int)] w fun e w' => e = .returned (bf (a ||| b) (fres p (a ||| b))) ∧ w = w' := by
  have hop : bits .or .u8 (a : Int) (b : Int) = ((a ||| b : Nat) : Int) := u8_or_nat a b ha hb
  go_enter Try.func8, Try.ntmps8
  (go_wp2_with fail; refine Cl.p (lgResult_calls (a ||| b) p _ (or_lt ha hb) hp) ?_)
  unfold bf
  go_wp2_with fail
  go_ret2
  exact ⟨rfl, rfl⟩

theorem lgEor_calls (a b p : Nat) (w : World) (ha : a < 256) (hb : b < 256) (hp : p < 256) :
    Calls Try.prog 9 #[.int .u8 (a : Int), .int .u8 (b : Int), .int .u8 (p : Int)] w fun e w' => e = .returned (bf (a ^^^ b) (fres p (a ^^^ b))) ∧ w = w' := by
  have hop : bits .xor .u8 (a : Int) (b : Int) = ((a ^^^ b : Nat) : Int) := u8_xor_nat a b ha hb
  go_enter Try.func9, Try.ntmps9
  (go_wp2_with fail; refine Cl.p (lgResult_calls (a ^^^ b) p _ (xor_lt ha hb) hp) ?_)
  unfold bf
  go_wp2_with fail
  go_ret2
  exact ⟨rfl, rfl⟩

theorem lgTest_calls (a m p : Nat) (w : World) (ha : a < 256) (hm : m < 256) (hp : p < 256) :
    Calls Try.prog 18 #[.int .u8 (a : Int), .int .u8 (m : Int), .int .u8 (p : Int)] w fun e w' => e = .returned (.int .u8 (tst a m p : Nat)) ∧ Below w.heap.size w w' := by
  have hop : bits .and .u8 (a : Int) (m : Int) = ((a &&& m : Nat) : Int) := u8_and_nat a m ha hm
  have hz0 : (((a &&& m : Nat) : Int) == 0) = (a &&& m == 0) := natCast_beq _
  have hs0 := bools_set (flagsOf p) 0 (fis m 128) (by omega)
  have hs1 := bools_set (upd (flagsOf p) 0 (fis m 128)) 1 (fis m 64) (by omega)
  have hs6 := bools_set (upd (upd (flagsOf p) 0 (fis m 128)) 1 (fis m 64)) 6 (a &&& m == 0) (by omega)
  have hg0 := bools_get (flagsOf p) 0 (by omega)
  have hg1 := bools_get (upd (flagsOf p) 0 (fis m 128)) 1 (by omega)
  have hg6 := bools_get (upd (upd (flagsOf p) 0 (fis m 128)) 1 (fis m 64)) 6 (by omega)
  go_enter Try.func18, Try.ntmps18
  (go_wp2_with fail; refine Cl.m (flOf_calls p _ hp) ?_; intro w1 hb1)
  have hz : Blk (w1.alloc (.cells (bools fun _ => false) 41)) w1.heap.size 41 (bools fun _ => false) := Blk.new _ _ _
  go_wp2_with (refine wpList_store_row rfl 41 _ _ rfl w1.heap.size (bools (flagsOf p)) rfl rfl 41 _ hz (by kernel_rfl) rfl (by kernel_rfl) ?_; rw [setRow_new])
  clear hz
  refine Cl.p (flIs_calls m 128 _ hm (by omega)) ?_
  (go_wp2_with fail; refine Cl.p (flIs_calls m 64 _ hm (by omega)) ?_)
  go_wp2_with (refine wpList_load_row rfl 41 _ rfl w1.heap.size rfl 41 _ (0, 0) _ (heap_alloc_new w1 _) Try.underlying41 rfl (by kernel_rfl) ?_)
  refine Cl.m (flByte_calls _ _) ?_
  intro w2 hb2
  rw [tst_of a m p hp]
  go_wp2_with fail
  go_ret
  exact ⟨rfl, by (repeat (first | exact Below.refl _ _ | assumption | refine Below.drew ?_ | refine Bl.alloc ?_ _ | refine below_drewN ?_ _ | refine Bl.chain ?_ (by assumption) (Nat.le_refl _)))⟩

theorem lgTsb_calls (a m p : Nat) (w : World) (ha : a < 256) (hm : m < 256) (hp : p < 256) :
    Calls Try.prog 10 #[.int .u8 (a : Int), .int .u8 (m : Int), .int .u8 (p : Int)] w fun e w' => e = .returned (bf (m ||| a) (tst a m p)) ∧ Below w.heap.size w w' := by
  have hop : bits .or .u8 (m : Int) (a : Int) = ((m ||| a : Nat) : Int) := u8_or_nat m a hm ha
  go_enter Try.func10, Try.ntmps10
  (go_wp2_with fail; refine Cl.m (lgTest_calls a m p _ ha hm hp) ?_; intro w1 hb1)
  go_wp2_with fail
  go_ret2
  exact ⟨rfl, by (repeat (first | exact Below.refl _ _ | assumption | refine Below.drew ?_ | refine Bl.alloc ?_ _ | refine below_drewN ?_ _ | refine Bl.chain ?_ (by assumption) (Nat.le_refl _)))⟩

theorem lgTrb_calls (a m p : Nat) (w : World) (ha : a < 256) (hm : m < 256) (hp : p < 256) :
    Calls Try.prog 11 #[.int .u8 (a : Int), .int .u8 (m : Int), .int .u8 (p : Int)] w fun e w' => e = .returned (bf (m &&& (255 - a)) (tst a m p)) ∧ Below w.heap.size w w' := by
  have hop : bits .andNot .u8 (m : Int) (a : Int) = ((m &&& (255 - a) : Nat) : Int) := u8_andNot_nat m a hm ha
  go_enter Try.func11, Try.ntmps11
  (go_wp2_with fail; refine Cl.m (lgTest_calls a m p _ ha hm hp) ?_; intro w1 hb1)
  go_wp2_with fail
  go_ret2
  exact ⟨rfl, by (repeat (first | exact Below.refl _ _ | assumption | refine Below.drew ?_ | refine Bl.alloc ?_ _ | refine below_drewN ?_ _ | refine Bl.chain ?_ (by assumption) (Nat.le_refl _)))⟩

theorem lgTurned_calls (p r : Nat) (out : Bool) (w : World) (hp : p < 256) (hr : r < 256) :
    Calls Try.prog 37 #[.int .u8 (p : Int), .int .u8 (r : Int), .bool out] w fun e w' => e = .returned (bf r (fres (fset p 1 out) r)) ∧ w = w' := by
  go_enter Try.func37, Try.ntmps37
  (go_wp2_with fail; refine Cl.p (flSet_calls p 1 out _ hp (by omega)) ?_)
  (go_wp2_with fail; refine Cl.p (lgResult_calls r (fset p 1 out) _ hr (fset_lt hp (by omega))) ?_)
  unfold bf
  go_wp2_with fail
  go_ret2
  exact ⟨rfl, rfl⟩

theorem lgAsl_calls (v p : Nat) (w : World) (hv : v < 256) (hp : p < 256) :
    Calls Try.prog 24 #[.int .u8 (v : Int), .int .u8 (p : Int)] w fun e w' => e = .returned (bf (lft v false) (fres (fset p 1 (tb v 7)) (lft v false))) ∧ w = w' := by
  go_enter Try.func24, Try.ntmps24
  (go_wp2_with fail; refine Cl.p (octLeft_calls v false _ hv) ?_)
  (go_wp2_with fail; refine Cl.p (lgTurned_calls p (lft v false) (tb v 7) _ hp (lft_lt v _)) ?_)
  unfold bf
  go_wp2_with fail
  go_ret2
  exact ⟨rfl, rfl⟩

theorem lgLsr_calls (v p : Nat) (w : World) (hv : v < 256) (hp : p < 256) :
    Calls Try.prog 25 #[.int .u8 (v : Int), .int .u8 (p : Int)] w fun e w' => e = .returned (bf (rgt v false) (fres (fset p 1 (tb v 0)) (rgt v false))) ∧ w = w' := by
  go_enter Try.func25, Try.ntmps25
  (go_wp2_with fail; refine Cl.p (octRight_calls v false _ hv) ?_)
  (go_wp2_with fail; refine Cl.p (lgTurned_calls p (rgt v false) (tb v 0) _ hp (rgt_lt _ hv)) ?_)
  unfold bf
  go_wp2_with fail
  go_ret2
  exact ⟨rfl, rfl⟩

theorem lgRol_calls (v p : Nat) (w : World) (hv : v < 256) (hp : p < 256) :
    Calls Try.prog 19 #[.int .u8 (v : Int), .int .u8 (p : Int)] w fun e w' => e = .returned (bf (lft v (fis p 1)) (fres (fset p 1 (tb v 7)) (lft v (fis p 1)))) ∧ w = w' := by
  go_enter Try.func19, Try.ntmps19
  (go_wp2_with fail; refine Cl.p (flIs_calls p 1 _ hp (by omega)) ?_)
  (go_wp2_with fail; refine Cl.p (octLeft_calls v (fis p 1) _ hv) ?_)
  (go_wp2_with fail; refine Cl.p (lgTurned_calls p (lft v (fis p 1)) (tb v 7) _ hp (lft_lt v _)) ?_)
  unfold bf
  go_wp2_with fail
  go_ret2
  exact ⟨rfl, rfl⟩

theorem lgRor_calls (v p : Nat) (w : World) (hv : v < 256) (hp : p < 256) :
    Calls Try.prog 20 #[.int .u8 (v : Int), .int .u8 (p : Int)] w fun e w' => e = .returned (bf (rgt v (fis p 1)) (fres (fset p 1 (tb v 0)) (rgt v (fis p 1)))) ∧ w = w' := by
  go_enter Try.func20, Try.ntmps20
  (go_wp2_with fail; refine Cl.p (flIs_calls p 1 _ hp (by omega)) ?_)
  (go_wp2_with fail; refine Cl.p (octRight_calls v (fis p 1) _ hv) ?_)
  (go_wp2_with fail; refine Cl.p (lgTurned_calls p (rgt v (fis p 1)) (tb v 0) _ hp (rgt_lt _ hv)) ?_)
  unfold bf
  go_wp2_with fail
  go_ret2
  exact ⟨rfl, rfl⟩

theorem lgInc_calls (v p : Nat) (w : World) (hv : v < 256) (hp : p < 256) :
    Calls Try.prog 21 #[.int .u8 (v : Int), .int .u8 (p : Int)] w fun e w' => e = .returned (bf ((v + 1) % 256) (fres p ((v + 1) % 256))) ∧ w = w' := by
  have hw : ((v : Int) + 1) % 256 = (((v + 1) % 256 : Nat) : Int) := by omega
  have Hw := hide hw
  clear hw
  go_enter Try.func21, Try.ntmps21
  go_wp2_with fail
  rw [Hw.out]
  refine Cl.p (lgResult_calls ((v + 1) % 256) p _ (Nat.mod_lt _ (by omega)) hp) ?_
  unfold bf
  go_wp2_with fail
  go_ret2
  exact ⟨rfl, rfl⟩

theorem lgDec_calls (v p : Nat) (w : World) (hv : v < 256) (hp : p < 256) :
    Calls Try.prog 22 #[.int .u8 (v : Int), .int .u8 (p : Int)] w fun e w' => e = .returned (bf ((v + 255) % 256) (fres p ((v + 255) % 256))) ∧ w = w' := by
  have hw : ((v : Int) - 1) % 256 = (((v + 255) % 256 : Nat) : Int) := by omega
  have Hw := hide hw
  clear hw
  go_enter Try.func22, Try.ntmps22
  go_wp2_with fail
  rw [Hw.out]
  refine Cl.p (lgResult_calls ((v + 255) % 256) p _ (Nat.mod_lt _ (by omega)) hp) ?_
  unfold bf
  go_wp2_with fail
  go_ret2
  exact ⟨rfl, rfl⟩
end Go.Proofs.Ytbnpjmmgnijjlaa
