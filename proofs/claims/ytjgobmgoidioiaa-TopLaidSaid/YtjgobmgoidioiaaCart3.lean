/-
  A scope with two labels; cart: run.
-/
import Derived.Test.YtjgobmgoidioiaaCart2
import Derived.ScopeJumps
namespace Go

/-- By a goto: J, by its label; else Q. -/
def Exit.jumps (J : Nat → Act → World → Prop) (Q : Exit → Act → World → Prop) : Exit → Act → World → Prop
  | .goto l, a, w => J l a w
  | e, a, w => Q e a w
section
variable {P : Program} {a : Act} {w : World} {Q : Exit → Act → World → Prop}
theorem wp_scope_many {c : Code} (rest : Nat → Code) (J : Nat → Act → World → Prop) (μ : Nat → Act → World → Nat) (hf : ∀ l a w, J l a w → findLabel c l = some (rest l))
    (first : c.wp P (Exit.jumps J Q) a w)
    (pass : ∀ l a w, J l a w → (rest l).wp P (Exit.jumps (fun l' a' w' => J l' a' w' ∧ μ l' a' w' < μ l a w) Q) a w) : (Code.scope c).wp P Q a w := by
  intro b k cs
  have hg : ∀ l a w, J l a w → gotoIn l (.inScope c :: k) = some (.code (rest l) :: .inScope c :: k) := fun l a w h => by simp [gotoIn, hf l a w h]
  have key : ∀ n l a w, μ l a w = n → J l a w → ∃ e a' w', Q e a' w' ∧ Arrives P (lone (b.at a (.code (rest l) :: .inScope c :: k)) cs w) b k cs e a' w' := by
    intro n
    induction n using Nat.strongRecOn with
    | _ n ih =>
      intro l a w hn hJ
      obtain ⟨e, a₁, w₁, hq, harr⟩ := pass l a w hJ b (.inScope c :: k) cs
      cases e with
      | normal => exact ⟨.normal, a₁, w₁, hq, Steps.trans harr (.one step_inScope)⟩
      | exit id => exact ⟨.exit id, a₁, w₁, hq, fun k' hk => harr k' (by simp [exitTo, hk])⟩
      | goto l' =>
        obtain ⟨hJ', hlt⟩ := hq
        obtain ⟨e₂, a₂, w₂, hq₂, harr₂⟩ := ih _ (by omega) l' a₁ w₁ rfl hJ'
        exact ⟨e₂, a₂, w₂, hq₂, .of_steps (harr _ (hg _ _ _ hJ')) harr₂⟩
      | ret => exact ⟨_, a₁, w₁, hq, harr⟩
      | panic ch => exact ⟨_, a₁, w₁, hq, harr⟩
      | outgrown => exact ⟨_, a₁, w₁, hq, harr⟩
  obtain ⟨e, a₁, w₁, hq, harr⟩ := first b (.inScope c :: k) cs
  cases e with
  | normal => exact ⟨.normal, a₁, w₁, hq, .head step_scope (Steps.trans harr (.one step_inScope))⟩
  | exit id => exact ⟨.exit id, a₁, w₁, hq, fun k' hk => .head step_scope (harr k' (by simp [exitTo, hk]))⟩
  | goto l' =>
    have hJ' : J l' a₁ w₁ := hq
    obtain ⟨e₂, a₂, w₂, hq₂, harr₂⟩ := key _ l' a₁ w₁ rfl hJ'
    exact ⟨e₂, a₂, w₂, hq₂, .of_steps (.head step_scope (harr _ (hg _ _ _ hJ'))) harr₂⟩
  | ret => exact ⟨_, a₁, w₁, hq, .of_steps (.one step_scope) harr⟩
  | panic ch => exact ⟨_, a₁, w₁, hq, .of_steps (.one step_scope) harr⟩
  | outgrown => exact ⟨_, a₁, w₁, hq, .of_steps (.one step_scope) harr⟩
theorem wp_scope_two {c : Code} (r0 r1 : Code) (J0 J1 : Act → World → Prop) (μ0 μ1 : Act → World → Nat) (h0 : findLabel c 0 = some r0) (h1 : findLabel c 1 = some r1)
    (first : c.wp P (Exit.jumps (fun l a w => (l = 0 ∧ J0 a w) ∨ (l = 1 ∧ J1 a w)) Q) a w)
    (pass0 : ∀ a w, J0 a w → r0.wp P (Exit.jumps (fun l' a' w' => (l' = 0 ∧ J0 a' w' ∧ μ0 a' w' < μ0 a w) ∨ (l' = 1 ∧ J1 a' w' ∧ μ1 a' w' < μ0 a w)) Q) a w)
    (pass1 : ∀ a w, J1 a w → r1.wp P (Exit.jumps (fun l' a' w' => (l' = 0 ∧ J0 a' w' ∧ μ0 a' w' < μ1 a w) ∨ (l' = 1 ∧ J1 a' w' ∧ μ1 a' w' < μ1 a w)) Q) a w) : (Code.scope c).wp P Q a w := by
  refine wp_scope_many (fun l => if l = 0 then r0 else r1) (fun l a w => (l = 0 ∧ J0 a w) ∨ (l = 1 ∧ J1 a w)) (fun l a w => if l = 0 then μ0 a w else μ1 a w) ?_ first ?_
  · rintro l a w (⟨rfl, _⟩ | ⟨rfl, _⟩)
    · rw [if_pos rfl]; exact h0
    · rw [if_neg (by decide)]; exact h1
  · rintro l a w (⟨rfl, hJ⟩ | ⟨rfl, hJ⟩)
    · rw [if_pos rfl, if_pos rfl]
      refine Code.wp_mono ?_ (pass0 a w hJ)
      intro e a' w' h
      cases e with
      | goto l' =>
        rcases h with ⟨rfl, h1, h2⟩ | ⟨rfl, h1, h2⟩
        · exact ⟨Or.inl ⟨rfl, h1⟩, by rw [if_pos rfl]; exact h2⟩
        · exact ⟨Or.inr ⟨rfl, h1⟩, by rw [if_neg (by decide)]; exact h2⟩
      | _ => exact h
    · rw [if_neg (by decide), if_neg (by decide)]
      refine Code.wp_mono ?_ (pass1 a w hJ)
      intro e a' w' h
      cases e with
      | goto l' =>
        rcases h with ⟨rfl, h1, h2⟩ | ⟨rfl, h1, h2⟩
        · exact ⟨Or.inl ⟨rfl, h1⟩, by rw [if_pos rfl]; exact h2⟩
        · exact ⟨Or.inr ⟨rfl, h1⟩, by rw [if_neg (by decide)]; exact h2⟩
      | _ => exact h
end
end Go
namespace Go.Proofs.Ytjgobmgoidioiaa
open Go.RowKit

/-- The frame of run. -/
def frR (b t e : Value) (u : Nat → Value) : Act := { tmps := #[b, t, u 2, u 3, u 4, u 5, u 6, e, u 8, u 9, u 10, u 11, u 12, u 13, u 14, u 15, u 16, u 17, u 18, u 19, u 20, u 21, u 22, u 23, u 24, u 25, u 26, u 27, u 28, u 29, u 30, u 31, u 32, u 33, u 34, u 35], defers := [] }
theorem frR_list (l : List Value) (h : l.length = 36) : ({ tmps := l.toArray, defers := [] } : Act) = frR (l.getD 0 undef) (l.getD 1 undef) (l.getD 7 undef) (fun i => l.getD i undef) := by
  have e : l = (List.range 36).map (fun i => l.getD i undef) := by
    apply List.ext_getElem?
    intro i
    by_cases hi : i < 36
    · have h1 : i < l.length := by omega
      simp [hi, h1]
    · have h1 : l.length ≤ i := by omega
      simp [hi, h1]
  have e2 : l.toArray = ((List.range 36).map (fun i => l.getD i undef)).toArray := congrArg _ e
  rw [e2]
  rfl
theorem at0 {Q : Nat → Prop} {b : Value} (l : List Value) (h : l.length = 36) (j : Nat) (hb : l.getD 0 undef = b) (ht : l.getD 1 undef = .int .i64 (j : Int)) (hq : Q j) : ∃ (j : Nat) (e : Value) (u : Nat → Value), Q j ∧ ({ tmps := l.toArray, defers := [] } : Act) = frR b (.int .i64 (j : Int)) e u := by
  subst hb
  refine ⟨j, l.getD 7 undef, fun i => l.getD i undef, hq, ?_⟩
  rw [← ht]
  exact frR_list l h
theorem at1 {Q : Nat → Prop} {b t : Value} (l : List Value) (h : l.length = 36) (j : Nat) (hb : l.getD 0 undef = b) (ht : l.getD 1 undef = t) (he : l.getD 7 undef = .int .i64 (j : Int)) (hq : Q j) : ∃ (j : Nat) (u : Nat → Value), Q j ∧ ({ tmps := l.toArray, defers := [] } : Act) = frR b t (.int .i64 (j : Int)) u := by
  subst hb ht
  refine ⟨j, fun i => l.getD i undef, hq, ?_⟩
  rw [← he]
  exact frR_list l h
theorem frR_of (l : List Value) (h : l.length = 36) {b t e : Value} (hb : l.getD 0 undef = b) (ht : l.getD 1 undef = t) (he : l.getD 7 undef = e) : ∃ u, ({ tmps := l.toArray, defers := [] } : Act) = frR b t e u := by
  subst hb ht he
  exact ⟨_, frR_list l h⟩
/-- From a place on: the first byte that isn't 0; the first that is. -/
def nzA (F : Nat → Int) : Nat → Nat → Nat
  | 0, i => i
  | m + 1, i => if F i = 0 then nzA F m (i + 1) else i
def ezA (F : Nat → Int) : Nat → Nat → Nat
  | 0, i => i
  | m + 1, i => if F i = 0 then i else ezA F m (i + 1)
theorem nzA_step {F : Nat → Int} {n i : Nat} (h : i < n) (hz : F i = 0) : nzA F (n - i) i = nzA F (n - (i + 1)) (i + 1) := by
  obtain ⟨m, hm⟩ : ∃ m, n - i = m + 1 := ⟨n - i - 1, by omega⟩
  rw [hm, show n - (i + 1) = m from by omega]
  exact if_pos hz
theorem nzA_stop {F : Nat → Int} {n i : Nat} (h : i < n) (hz : F i ≠ 0) : nzA F (n - i) i = i := by
  obtain ⟨m, hm⟩ : ∃ m, n - i = m + 1 := ⟨n - i - 1, by omega⟩
  rw [hm]
  exact if_neg hz
theorem ezA_step {F : Nat → Int} {n i : Nat} (h : i < n) (hz : F i ≠ 0) : ezA F (n - i) i = ezA F (n - (i + 1)) (i + 1) := by
  obtain ⟨m, hm⟩ : ∃ m, n - i = m + 1 := ⟨n - i - 1, by omega⟩
  rw [hm, show n - (i + 1) = m from by omega]
  exact if_neg hz
theorem ezA_stop {F : Nat → Int} {n i : Nat} (h : i < n) (hz : F i = 0) : ezA F (n - i) i = i := by
  obtain ⟨m, hm⟩ : ∃ m, n - i = m + 1 := ⟨n - i - 1, by omega⟩
  rw [hm]
  exact if_pos hz
set_option maxRecDepth 100000 in
set_option maxHeartbeats 4000000 in
theorem ctRun_calls (n c i f g : Nat) (o : Option Addr) (F : Nat → Int) (w : World) (hn : n ≤ 1048576) (hi : i ≤ n) (hL : NumsAt w .u8 o n F) (hJ : nzA F (n - i) i = f) (hG : ezA F (n - f) f = g) :
    Calls Try.prog 17 #[.slice o n c, .int .i64 (i : Int)] w fun e w' => w' = w ∧ ((f = n ∧ e = .returned (.tuple #[.int .i64 0, .int .i64 0, .bool false])) ∨ (f < n ∧ e = .returned (.tuple #[.int .i64 (f : Int), .int .i64 (g : Int), .bool true]))) := by
  go_enter Try.func17, Try.ntmps17
  go_wp2_with fail
  refine wp_scope_two _ _ (fun a w' => w' = w ∧ ∃ (j : Nat) (e : Value) (u : Nat → Value), (j ≤ n ∧ nzA F (n - j) j = f) ∧ a = frR (.slice o n c) (.int .i64 (j : Int)) e u)
    (fun a w' => w' = w ∧ ∃ (e : Nat) (u : Nat → Value), (f < n ∧ e ≤ n ∧ ezA F (n - e) e = g) ∧ a = frR (.slice o n c) (.int .i64 (f : Int)) (.int .i64 (e : Int)) u)
    (fun a _ => n + 1 + (n - (intOf (a.tmps.getD 1 undef)).toNat)) (fun a _ => n - (intOf (a.tmps.getD 7 undef)).toNat) rfl rfl ?_ ?_ ?_
  · go_wp2_with fail
    go_step3
    by_cases hjn : i < n
    · have hjn' : ((i : Int) == (n : Int)) = false := by rw [beq_eq_false_iff_ne]; omega
      have hjn2 : (i : Int) < (n : Int) := by omega
      obtain ⟨b, off, rfl, hlt, hc⟩ := hL i hjn
      by_cases hz : F i = 0
      · rw [nzA_step hjn hz] at hJ
        rw [hz] at hc
        have H := hide hJ
        clear hJ hz
        go_wp2_with fail
        go_step3
        have ej : (i : Int) + 1 = ((i + 1 : Nat) : Int) := by omega
        rw [ej]
        exact Or.inl ⟨rfl, rfl, at0 (Q := fun j => j ≤ n ∧ nzA F (n - j) j = f) _ rfl (i + 1) rfl rfl ⟨by omega, H.out⟩⟩
      · rw [nzA_stop hjn hz] at hJ
        have hne : (F i == 0) = false := beq_eq_false_iff_ne.2 hz
        have hne2 : (F i != 0) = true := by rw [bne_iff_ne]; exact hz
        subst hJ
        have hG2 := hG
        rw [ezA_step hjn hz] at hG2
        have H := hide hG2
        clear hG2 hz
        go_wp2_with fail
        go_step3
        go_wp2_with fail
        go_step3
        have ej : (i : Int) + 1 = ((i + 1 : Nat) : Int) := by omega
        rw [ej]
        exact Or.inr ⟨rfl, rfl, at1 (Q := fun e => i < n ∧ e ≤ n ∧ ezA F (n - e) e = g) _ rfl (i + 1) rfl rfl rfl ⟨hjn, by omega, H.out⟩⟩
    · obtain rfl : i = n := by omega
      have hjn' : ((i : Int) == (i : Int)) = true := beq_self_eq_true _
      rw [Nat.sub_self] at hJ
      have hJ : i = f := hJ
      have H := hide hJ
      clear hJ
      go_wp2_with fail
      (try subst hQ)
      simp only [Exit.jumps]
      go_ret3
      exact ⟨rfl, Or.inl ⟨H.out.symm, rfl⟩⟩
  · rintro a w' ⟨rfl, j, e, u, ⟨hj, hJ⟩, rfl⟩
    go_hide hQ
    unfold frR
    by_cases hjn : j < n
    · have hjn' : ((j : Int) == (n : Int)) = false := by rw [beq_eq_false_iff_ne]; omega
      have hjn2 : (j : Int) < (n : Int) := by omega
      obtain ⟨b, off, rfl, hlt, hc⟩ := hL j hjn
      by_cases hz : F j = 0
      · rw [nzA_step hjn hz] at hJ
        rw [hz] at hc
        have H := hide hJ
        clear hJ hz
        go_wp2_with fail
        go_step3
        have ej : (j : Int) + 1 = ((j + 1 : Nat) : Int) := by omega
        rw [ej]
        subst hQ
        exact Or.inl ⟨rfl, ⟨rfl, at0 (Q := fun j => j ≤ n ∧ nzA F (n - j) j = f) _ rfl (j + 1) rfl rfl ⟨by omega, H.out⟩⟩, by simp [frR, intOf]; omega⟩
      · rw [nzA_stop hjn hz] at hJ
        have hne : (F j == 0) = false := beq_eq_false_iff_ne.2 hz
        have hne2 : (F j != 0) = true := by rw [bne_iff_ne]; exact hz
        subst hJ
        have hG2 := hG
        rw [ezA_step hjn hz] at hG2
        have H := hide hG2
        clear hG2 hz
        go_wp2_with fail
        go_step3
        go_wp2_with fail
        go_step3
        have ej : (j : Int) + 1 = ((j + 1 : Nat) : Int) := by omega
        rw [ej]
        subst hQ
        exact Or.inr ⟨rfl, ⟨rfl, at1 (Q := fun e => j < n ∧ e ≤ n ∧ ezA F (n - e) e = g) _ rfl (j + 1) rfl rfl rfl ⟨hjn, by omega, H.out⟩⟩, by simp [frR, intOf]; omega⟩
    · obtain rfl : j = n := by omega
      have hjn' : ((j : Int) == (j : Int)) = true := beq_self_eq_true _
      rw [Nat.sub_self] at hJ
      have hJ : j = f := hJ
      have H := hide hJ
      clear hJ
      go_wp2_with fail
      (try subst hQ)
      simp only [Exit.jumps]
      go_ret3
      exact ⟨rfl, Or.inl ⟨H.out.symm, rfl⟩⟩
  · rintro a w' ⟨rfl, j, u, ⟨hfn, hj, hG⟩, rfl⟩
    go_hide hQ
    unfold frR
    by_cases hjn : j < n
    · have hjn2 : (j : Int) < (n : Int) := by omega
      obtain ⟨b, off, rfl, hlt, hc⟩ := hL j hjn
      by_cases hz : F j = 0
      · rw [ezA_stop hjn hz] at hG
        rw [hz] at hc
        have H := hide hG
        clear hG hz
        go_wp2_with fail
        subst hQ
        simp only [Exit.jumps]
        go_ret3
        exact ⟨rfl, Or.inr ⟨hfn, by rw [H.out]; rfl⟩⟩
      · rw [ezA_step hjn hz] at hG
        have hne2 : (F j != 0) = true := by rw [bne_iff_ne]; exact hz
        have H := hide hG
        clear hG hz
        go_wp2_with fail
        go_step3
        have ej : (j : Int) + 1 = ((j + 1 : Nat) : Int) := by omega
        rw [ej]
        subst hQ
        exact Or.inr ⟨rfl, ⟨rfl, at1 (Q := fun e => f < n ∧ e ≤ n ∧ ezA F (n - e) e = g) _ rfl (j + 1) rfl rfl rfl ⟨hfn, by omega, H.out⟩⟩, by simp [frR, intOf]; omega⟩
    · obtain rfl : j = n := by omega
      have hjn2 : (decide ((j : Int) < (j : Int))) = false := by rw [decide_eq_false_iff_not]; omega
      rw [Nat.sub_self] at hG
      have hG : j = g := hG
      have H := hide hG
      clear hG
      go_wp2_with fail
      (try subst hQ)
      simp only [Exit.jumps]
      go_ret3
      exact ⟨rfl, Or.inr ⟨hfn, by rw [← H.out]; rfl⟩⟩
end Go.Proofs.Ytjgobmgoidioiaa
