/-
  Package flags: Read; gannetref20: Text, Read.
-/
import Derived.Test.YtelmkpcocaogjaaDoorFtext
namespace Go.Proofs.YtelmkpcocaogjaaDoor
open Go.RowKit Pl

theorem take_next (p k : Nat) (hk : k < 8) : (txt p).take (k + 1) = (txt p).take k ++ [txtC p k] := by
  rw [List.take_add_one, txt_get p k hk]
  rfl

theorem ba_append (a b : List UInt8) : (⟨a.toArray⟩ : ByteArray) ++ ⟨b.toArray⟩ = ⟨(a ++ b).toArray⟩ := by
  apply ByteArray.ext
  simp
theorem letters_at (k : Nat) (hk : k < 8) : (⟨#[78, 86, 84, 66, 68, 73, 90, 67]⟩ : ByteArray).extract k (k + 1) = ⟨#[letter k]⟩ := by
  match k, hk with
  | 0, _ | 1, _ | 2, _ | 3, _ | 4, _ | 5, _ | 6, _ | 7, _ => rfl

theorem r20Text_calls (p : Nat) (w : World) (hp : p < 256) :
    Calls Tryd.prog 36 #[.int .u8 (p : Int)] w fun e w' => e = .returned (.string ⟨(txt p).toArray⟩) ∧ w = w' := by
  go_enter Tryd.func36, Tryd.ntmps36
  go_wp2_with fail
  go_loop [3, 4] (fun s i => ∃ k : Nat, k ≤ 8 ∧ i = .int .i64 (k : Int) ∧ s = .string ⟨((txt p).take k).toArray⟩) (fun _ i => 8 - (intOf i).toNat)
  case atStart => exact ⟨0, Nat.zero_le _, rfl, rfl⟩
  case round =>
    obtain ⟨k, hk, rfl, rfl⟩ := hrel
    by_cases hlt : k < 8
    · have hbit : tb p ((7 : Int) - k) = fis p (2 ^ (7 - k)) := by
        rw [fis_tb p (7 - k) (by omega)]
        congr 1
        omega
      go_wp2_with fail
      refine (r20Is_calls p _ _ hp).mono ?_
      rintro e w' ⟨rfl, rfl⟩
      rw [hbit]
      cases hf : fis p (2 ^ (7 - k))
      · have ht : txtC p k = 46 := by unfold txtC; rw [hf]; rfl
        have Ht := hide ht; clear ht hf
        go_wp2_with fail
        go_round
        case rel => exact ⟨k + 1, by omega, by go_num, by rw [take_next p k hlt, Ht.out]; exact congrArg Value.string (ba_append _ [46])⟩
        case measure => simp [intOf]; omega
      · have ht : txtC p k = letter k := by unfold txtC; rw [hf]; rfl
        have Ht := hide ht; clear ht hf
        go_wp2_with fail
        go_round
        case rel => exact ⟨k + 1, by omega, by go_num, by rw [take_next p k hlt, Ht.out, letters_at k hlt]; exact congrArg Value.string (ba_append _ [letter k])⟩
        case measure => simp [intOf]; omega
    · obtain rfl : k = 8 := by omega
      go_wp2_with fail
      go_ret
      exact ⟨by simp [List.take_of_length_le, txt_len], rfl⟩

def errOf (r : Option Nat) : Value := match r with
  | some p => .tuple #[.int .u8 (p : Int), .int .i64 0]
  | none => .tuple #[.int .u8 0, .int .i64 3]

theorem r20Read_calls (s : ByteArray) (w : World) :
    Calls Tryd.prog 34 #[.string s] w fun e w' => e = .returned (errOf (rd s.toList)) ∧ w = w' := by
  go_enter Tryd.func34, Tryd.ntmps34
  go_wp2_with fail
  go_loop [4] (fun i => ∃ k : Nat, k ≤ 256 ∧ i = .int .i64 (k : Int) ∧ ∀ q, q < k → txt q ≠ s.toList) (fun i => 256 - (intOf i).toNat)
  case atStart => exact ⟨0, Nat.zero_le _, rfl, fun q hq => by omega⟩
  case round =>
    obtain ⟨k, hk, rfl, hno⟩ := hrel
    have Hno := hide hno; clear hno
    by_cases hlt : k < 256
    · have hlt' : (k : Int) < 256 := by omega
      go_wp2_with fail
      refine (r20Text_calls k _ hlt).mono ?_
      rintro e w' ⟨rfl, rfl⟩
      cases hb : (txt k == s.toList)
      · go_wp2_with fail
        go_round
        case rel =>
          refine ⟨k + 1, by omega, by go_num, fun q hq => ?_⟩
          by_cases e : q = k
          · subst e; simpa using hb
          · exact Hno.out q (by omega)
        case measure => simp [intOf]; omega
      · have hr : rd s.toList = some k := rd_some _ k hlt (by simpa using hb)
        have Hr := hide hr; clear hr
        go_wp2_with fail
        go_ret2
        exact ⟨by rw [Hr.out]; rfl, rfl⟩
    · obtain rfl : k = 256 := by omega
      have hr : rd s.toList = none := rd_none _ Hno.out
      have Hr := hide hr; clear hr
      go_wp2_with fail
      go_ret2
      exact ⟨by rw [Hr.out]; rfl, rfl⟩

theorem str_at (s : ByteArray) (k : Nat) (h : k < s.size) : s.toList[k]? = some s[k] := by
  rw [ByteArray.toList_eq, List.getElem?_eq_getElem (by simpa using h)]
  rfl
theorem u8_yes {a b : UInt8} (h : ((a.toNat : Int) == (b.toNat : Int)) = true) : a = b := by
  have : (a.toNat : Int) = (b.toNat : Int) := by simpa using h
  exact UInt8.toNat_inj.1 (by omega)
theorem u8_no {a b : UInt8} (h : ((a.toNat : Int) == (b.toNat : Int)) = false) : a ≠ b := by
  intro e
  subst e
  simp at h

theorem hk7' (k : Nat) (h : k < 8) : (128 : Int) / 2 ^ k = ((2 ^ (7 - k) : Nat) : Int) := by
  match k, h with
  | 0, _ | 1, _ | 2, _ | 3, _ | 4, _ | 5, _ | 6, _ | 7, _ => decide

theorem flRead_calls (s : ByteArray) (w : World) (_hs : s.size ≤ maxLen) :
    Calls Tryd.prog 32 #[.string s] w fun e w' => e = .returned (errOf (rd s.toList)) ∧ Below w.heap.size w w' := by
  unfold maxLen at _hs
  by_cases h8 : s.size = 8
  · have h8a : ((s.size : Int) != 8) = false := by rw [h8]; rfl
    have H8 := hide h8; clear h8
    go_enter Tryd.func32, Tryd.ntmps32
    go_wp2_with fail
    refine (flNames_calls _).mono ?_
    rintro e w1 ⟨rfl, hb1⟩
    have hz : Blk (w1.alloc (.cells (arr 8 fun _ => .int .u8 0) 23)) w1.heap.size 23 (arr 8 fun _ => .int .u8 0) := Blk.new _ _ _
    go_wp2_with (first
      | (refine wpList_store_row rfl 23 _ _ rfl w1.heap.size (arr 8 (cells8 letter)) rfl rfl 23 _ hz (by kernel_rfl) rfl (by kernel_rfl) ?_; rw [setRow_new])
      | (refine wpList_load_row rfl 23 _ rfl w1.heap.size rfl 23 _ (0, 0) _ (heap_alloc_new w1 _) Tryd.underlying23 rfl (by kernel_rfl) ?_))
    go_loop [5, 13] (fun p i => ∃ k : Nat, k ≤ 8 ∧ i = .int .i64 (k : Int) ∧ p = .int .u8 (psumR s.toList k : Nat) ∧ ∀ q, q < k → s.toList[q]? = some (letter q) ∨ s.toList[q]? = some 46) (fun _ i => 8 - (intOf i).toNat)
    case atStart => exact ⟨0, Nat.zero_le _, rfl, rfl, fun q hq => by omega⟩
    case round =>
      obtain ⟨k, hk, rfl, rfl, hno⟩ := hrel
      have Hno := hide hno; clear hno
      by_cases hlt : k < 8
      · have hlt' : (k : Int) < 8 := by omega
        have hks : k < s.size := by rw [H8.out]; exact hlt
        have hix : ∀ w : World, (Instr.index 23 (.agg (arr 8 (cells8 letter))) (.int .i64 (k : Int))).run Tryd.prog w = .ok (.int .u8 ((letter k).toNat : Int)) w :=
          fun w => run_index_row 23 5 8 Tryd.underlying23 (fun _ => by kernel_rfl) (fun _ => by kernel_rfl) _ _ k hlt _ (arr_get 8 (cells8 letter) k hlt) w
        have hat := str_at s k hks
        have Hat := hide hat; clear hat
        go_wp2_with fail
        · have hy := u8_yes ‹((s[k].toNat : Int) == ((letter k).toNat : Int)) = true›
          have hl : s.toList[k]? = some (letter k) := by rw [Hat.out, hy]
          go_round
          case rel =>
            refine ⟨k + 1, by omega, by go_num, ?_, fun q hq => ?_⟩
            · rw [hk7' k hlt, u8_or_nat _ _ (psumR_lt _ k hk) (pw_lt _ (by omega)), psumR, if_pos hl]
            · by_cases e : q = k
              · subst e; exact .inl hl
              · exact Hno.out q (by omega)
          case measure => simp [intOf]; omega
        · have hn := u8_no ‹((s[k].toNat : Int) == ((letter k).toNat : Int)) = false›
          have hy : s[k] = 46 := u8_yes (b := 46) ‹((s[k].toNat : Int) == 46) = true›
          have hl : ¬ s.toList[k]? = some (letter k) := by
            rw [Hat.out]
            intro e
            injection e with e
            exact hn e
          go_round
          case rel =>
            refine ⟨k + 1, by omega, by go_num, ?_, fun q hq => ?_⟩
            · rw [psumR, if_neg hl]
            · by_cases e : q = k
              · subst e; exact .inr (by rw [Hat.out, hy])
              · exact Hno.out q (by omega)
          case measure => simp [intOf]; omega
        · have hn := u8_no ‹((s[k].toNat : Int) == ((letter k).toNat : Int)) = false›
          have hn2 : s[k] ≠ 46 := u8_no (b := 46) ‹((s[k].toNat : Int) == 46) = false›
          have hr : rd s.toList = none := rd_at _ k _ hlt Hat.out hn hn2
          go_ret2
          exact ⟨by rw [hr]; rfl, hb1.alloc hb1.size _⟩
      · obtain rfl : k = 8 := by omega
        have hr : rd s.toList = some (psumR s.toList 8) := rd_some _ _ (psumR_lt _ 8 (by omega)) (txt_psumR _ (by rw [ByteArray.toList_eq]; simpa using H8.out) Hno.out)
        have Hr := hide hr; clear hr
        go_wp2_with fail
        go_ret2
        exact ⟨by rw [Hr.out]; rfl, hb1.alloc hb1.size _⟩
  · have h8a : ((s.size : Int) != 8) = true := by simp; omega
    have hr : rd s.toList = none := rd_len _ (by rw [ByteArray.toList_eq]; simpa using h8)
    have Hr := hide hr; clear hr
    go_enter Tryd.func32, Tryd.ntmps32
    go_wp2_with fail
    refine (flNames_calls _).mono ?_
    rintro e w1 ⟨rfl, hb1⟩
    have hz : Blk (w1.alloc (.cells (arr 8 fun _ => .int .u8 0) 23)) w1.heap.size 23 (arr 8 fun _ => .int .u8 0) := Blk.new _ _ _
    go_wp2_with (first
      | (refine wpList_store_row rfl 23 _ _ rfl w1.heap.size (arr 8 (cells8 letter)) rfl rfl 23 _ hz (by kernel_rfl) rfl (by kernel_rfl) ?_; rw [setRow_new]))
    go_ret2
    exact ⟨by rw [Hr.out]; rfl, hb1.alloc hb1.size _⟩
end Go.Proofs.YtelmkpcocaogjaaDoor
