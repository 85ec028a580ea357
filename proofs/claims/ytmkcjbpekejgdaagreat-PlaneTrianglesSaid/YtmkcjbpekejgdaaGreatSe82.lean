/-
  The normal form of a simple polygon has three corners at least. Plain. No condition.
-/
import Derived.Test.YtmkcjbpekejgdaaGreatSe75
set_option linter.unusedSimpArgs false
set_option linter.unusedVariables false
noncomputable section
namespace Go.Aw
theorem cross_sw (a b c : Int × Int) : crossI b a c = -crossI a b c := by
  unfold crossI
  obtain ⟨a1, a2⟩ := a
  obtain ⟨b1, b2⟩ := b
  obtain ⟨c1, c2⟩ := c
  simp only [Int.sub_mul, Int.mul_sub]
  have e1 := Int.mul_comm a1 b2
  have e2 := Int.mul_comm a1 c2
  have e3 := Int.mul_comm b1 a2
  have e4 := Int.mul_comm b1 c2
  have e5 := Int.mul_comm c1 a2
  have e6 := Int.mul_comm c1 b2
  have e7 := Int.mul_comm a1 a2
  have e8 := Int.mul_comm b1 b2
  omega
theorem cross_sw0 {a b c : Int × Int} (h : crossI a b c = 0) : crossI b a c = 0 := by rw [cross_sw, h]; rfl
theorem cross_rev0 {a b c : Int × Int} (h : crossI a b c = 0) : crossI c b a = 0 := by rw [cross_rev, h]; rfl
/-- F, Q, P on one line and F, P, R too: F, Q, R. -/
theorem coll2 {F Q P R : Int × Int} (hne : F ≠ P) (h1 : crossI F Q P = 0) (h2 : crossI F P R = 0) : crossI F Q R = 0 :=
  cross_sw0 (coll_trans (p := Q) (a := P) (b := F) (c := R) (fun e => hne e.symm) (cross_rev0 (cross_sw0 (cross_rev0 (cross_sw0 h1)))) (cross_sw0 h2))
theorem cyc_far {o : List (Int × Int)} (hnd : o.Nodup) (f k : Nat) (h1 : 0 < k) (h2 : k < o.length) : cyc o f ≠ cyc o (f + k) := by
  intro e
  have h0 : 0 < o.length := by omega
  have := nodup_at hnd (Nat.mod_lt f h0) (Nat.mod_lt (f + k) h0) e
  have e2 : (f + k) % o.length = (f % o.length + k) % o.length := by rw [Nat.mod_add_mod]
  have hf := Nat.mod_lt f h0
  rw [e2] at this
  generalize f % o.length = a at this hf
  by_cases hc : a + k < o.length
  · have e4 := Nat.mod_eq_of_lt hc
    omega
  · have e4 : (a + k) % o.length = (a + k - o.length) % o.length := Nat.mod_eq_sub_mod (by omega)
    have e5 : (a + k - o.length) % o.length = a + k - o.length := Nat.mod_eq_of_lt (by omega)
    omega
theorem segI_run {o : List (Int × Int)} {f : Nat} (hf : keptO o f = true) : ∀ k, (∀ j, 0 < j → j ≤ k → keptO o (f + j) = false) → segI o f (k + 1) = [cyc o f]
  | 0, _ => by
    rw [segI_succ, Nat.add_zero, if_pos hf]
    rfl
  | k + 1, h => by
    rw [segI_succ, segI_run hf k (fun j h1 h2 => h j h1 (by omega)), if_neg (by rw [h (k + 1) (by omega) (Nat.le_refl _)]; decide), List.append_nil]
theorem run_line {o : List (Int × Int)} (hnd : o.Nodup) (h2 : 2 ≤ o.length) {f : Nat} (hf : keptO o f = true) {k : Nat} (h : ∀ j, 0 < j → j ≤ k → keptO o (f + j) = false) : crossI (cyc o f) (cyc o (f + k)) (cyc o (f + k + 1)) = 0 := by
  have hc := (chain hnd h2 hf k).2.2.2
  rw [segI_run hf k h] at hc
  exact hc
/-- Straight corners behind a kept one lie on one line with it. -/
theorem run_all {o : List (Int × Int)} (hnd : o.Nodup) (h2 : 2 ≤ o.length) {f : Nat} (hf : keptO o f = true) : ∀ k, k + 1 < o.length → (∀ j, 0 < j → j ≤ k → keptO o (f + j) = false) → crossI (cyc o f) (cyc o (f + 1)) (cyc o (f + (k + 1))) = 0
  | 0, _, _ => by
    unfold crossI
    have := Int.mul_comm ((cyc o (f + 1)).1 - (cyc o f).1) ((cyc o (f + 1)).2 - (cyc o f).2)
    simp only [Nat.zero_add] at *
    omega
  | k + 1, hk, h => coll2 (cyc_far hnd f (k + 1) (by omega) (by omega)) (run_all hnd h2 hf k (by omega) (fun j h1 h2 => h j h1 (by omega))) (run_line hnd h2 hf h)
theorem kept_turn {o : List (Int × Int)} {f : Nat} (h : 0 < o.length) (hf : keptO o f = true) : crossI (cyc o f) (cyc o (f + 1)) (cyc o (f + (o.length - 1))) ≠ 0 := by
  intro e
  rw [keptO_cyc, show f + o.length - 1 = f + (o.length - 1) by omega] at hf
  have e3 : crossI (cyc o (f + (o.length - 1))) (cyc o f) (cyc o (f + 1)) = 0 := cross_rev0 (cross_sw0 e)
  rw [(turn_zero _ _ _).2 e3] at hf
  cases hf
theorem least_of {p : Nat → Bool} : ∀ n, (∀ j, 0 < j → j < n → p j = false) ∨ ∃ m, 0 < m ∧ m < n ∧ p m = true ∧ ∀ j, 0 < j → j < m → p j = false
  | 0 => .inl fun j _ h => absurd h (Nat.not_lt_zero j)
  | n + 1 => by
    rcases least_of (p := p) n with h | ⟨m, h1, h2, h3, h4⟩
    · cases hn : (decide (0 < n) && p n) with
      | true =>
        simp only [Bool.and_eq_true, decide_eq_true_eq] at hn
        exact .inr ⟨n, hn.1, by omega, hn.2, h⟩
      | false =>
        refine .inl fun j h0 hj => ?_
        by_cases e : j = n
        · subst e
          simpa [h0] using hn
        · exact h j h0 (by omega)
    · exact .inr ⟨m, h1, by omega, h3, h4⟩
theorem seg_one {o : List (Int × Int)} {f d : Nat} (hf : keptO o f = true) : 1 ≤ (segI o f (1 + d)).length := by
  rw [segI_one, if_pos hf, List.length_append]
  simp
theorem seg_three {o : List (Int × Int)} (hnd : o.Nodup) (h3 : 3 ≤ o.length) {f : Nat} (hf : keptO o f = true) : 3 ≤ (segI o f o.length).length := by
  have hkt := kept_turn (by omega) hf
  rcases least_of (p := fun j => keptO o (f + j)) o.length with h | ⟨m, m0, m1, m2, m3⟩
  · exfalso
    have hr := run_all hnd (by omega) hf (o.length - 2) (by omega) (fun j h1 h2 => h j h1 (by omega))
    rw [show o.length - 2 + 1 = o.length - 1 by omega] at hr
    exact hkt hr
  · have hm1 : crossI (cyc o f) (cyc o (f + 1)) (cyc o (f + m)) = 0 := by
      have hr := run_all hnd (by omega) hf (m - 1) (by omega) (fun j h1 h2 => m3 j h1 (by omega))
      rwa [show m - 1 + 1 = m by omega] at hr
    rcases least_of (p := fun j => keptO o (f + m + j)) (o.length - m) with h | ⟨q, q0, q1, q2, q3⟩
    · exfalso
      have hr := run_line hnd (by omega) (f := f + m) m2 (k := o.length - m - 1) (fun j h1 h2 => h j h1 (by omega))
      rw [show f + m + (o.length - m - 1) = f + (o.length - 1) by omega, show f + (o.length - 1) + 1 = f + o.length by omega, cyc_add] at hr
      exact hkt (coll2 (cyc_far hnd f m m0 m1) hm1 (cross_rev0 (cross_sw0 hr)))
    · have e : o.length = (1 + (m - 1)) + ((1 + (q - 1)) + (1 + (o.length - m - q - 1))) := by omega
      rw [e, segI_add o f (1 + (m - 1)), segI_add o (f + (1 + (m - 1))) (1 + (q - 1)), List.length_append, List.length_append]
      have l1 := seg_one (o := o) (f := f) (d := m - 1) hf
      have l2 := seg_one (o := o) (f := f + (1 + (m - 1))) (d := q - 1) (by rw [show f + (1 + (m - 1)) = f + m by omega]; exact m2)
      have l3 := seg_one (o := o) (f := f + (1 + (m - 1)) + (1 + (q - 1))) (d := o.length - m - q - 1) (by rw [show f + (1 + (m - 1)) + (1 + (q - 1)) = f + m + q by omega]; exact q2)
      omega
theorem norR_three {l : List (Int × Int)} (h : goodP l) (hs : simpleP l) : 3 ≤ (norR l).length := by
  have hnd : (dirI l).Nodup := by
    unfold dirI
    split
    · exact nodup_rev h.2.2.2
    · exact h.2.2.2
  have hl := dirI_len l
  have hp := norR_pos h hs
  have h3 := h.1
  unfold norR at hp ⊢
  rw [← hl] at hp ⊢
  have hk : keptO (dirI l) (leastI (dirI l) (dirI l).length) = true := by
    have hr : (dirI l).all rightS = true := by
      unfold dirI
      split
      · rw [List.all_reverse]; exact h.2.2.1
      · exact h.2.2.1
    obtain ⟨f, hf, hk, hm⟩ := simple_rawpos h hs
    have ho : ∃ f', f' < (dirI l).length ∧ keptO (dirI l) f' = true ∧ ∀ k, k < (dirI l).length → k ≠ f' → key (at2 (dirI l) f') < key (at2 (dirI l) k) := by
      unfold dirI
      by_cases hn : areaI l l.length < 0
      · rw [if_pos hn]
        refine ⟨l.length - 1 - f, by rw [List.length_reverse]; omega, ?_, ?_⟩
        · rw [keptO_rev (by omega), show l.length - 1 - (l.length - 1 - f) = f by omega]
          exact hk
        · intro k hk' hne
          rw [List.length_reverse] at hk'
          rw [at2_rev l (by omega), at2_rev l hk', show l.length - 1 - (l.length - 1 - f) = f by omega]
          exact hm _ (by omega) (by omega)
      · rw [if_neg hn]
        exact ⟨f, hf, hk, hm⟩
    obtain ⟨f', hf', hk', hm'⟩ := ho
    have hlt : leastI (dirI l) (dirI l).length < (dirI l).length := by have := leastI_lt (dirI l) (dirI l).length; omega
    have hfe : f' = leastI (dirI l) (dirI l).length := by
      apply Classical.byContradiction
      intro hne
      have h1 := least_strict hr hnd (by omega) hf' hne
      have h2 := hm' _ hlt (fun e => hne e.symm)
      omega
    rw [← hfe]
    exact hk'
  exact seg_three hnd (by rw [hl]; exact h3) hk
end Go.Aw
