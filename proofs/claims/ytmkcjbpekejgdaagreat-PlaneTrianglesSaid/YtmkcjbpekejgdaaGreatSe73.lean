/-
  Corners that are kept: turned, reversed, their area. Plain. No condition.
-/
import Derived.Test.YtmkcjbpekejgdaaGreatSe72
set_option linter.unusedSimpArgs false
set_option linter.unusedVariables false
noncomputable section
namespace Go.Aw
theorem keptO_cyc (o : List (Int × Int)) (k : Nat) : keptO o k = !decide (turnS (cyc o (k + o.length - 1)) (cyc o k) (cyc o (k + 1)) = 0) := rfl
theorem keptO_add {o : List (Int × Int)} (h : 0 < o.length) (k : Nat) : keptO o (k + o.length) = keptO o k := by
  rw [keptO_cyc, keptO_cyc]
  rw [show k + o.length + o.length - 1 = (k + o.length - 1) + o.length by omega, cyc_add, cyc_add]
  rw [show k + o.length + 1 = k + 1 + o.length by omega, cyc_add]
theorem segI_succ (o : List (Int × Int)) (f n : Nat) : segI o f (n + 1) = segI o f n ++ (if keptO o (f + n) = true then [cyc o (f + n)] else []) := rfl
theorem segI_add (o : List (Int × Int)) (f a : Nat) : ∀ b, segI o f (a + b) = segI o f a ++ segI o (f + a) b
  | 0 => by
    rw [Nat.add_zero, show segI o (f + a) 0 = [] from rfl, List.append_nil]
  | b + 1 => by
    rw [← Nat.add_assoc, segI_succ, segI_add o f a b, segI_succ, List.append_assoc, Nat.add_assoc]
theorem segI_per {o : List (Int × Int)} (h : 0 < o.length) (f : Nat) : ∀ k, segI o (f + o.length) k = segI o f k
  | 0 => rfl
  | k + 1 => by
    rw [segI_succ, segI_succ, segI_per h f k, show f + o.length + k = f + k + o.length by omega, keptO_add h, cyc_add]
theorem segI_one (o : List (Int × Int)) (f k : Nat) : segI o f (1 + k) = (if keptO o f = true then [cyc o f] else []) ++ segI o (f + 1) k := by
  rw [segI_add]
  congr 1
theorem rawI_seg {l : List (Int × Int)} : ∀ {k}, k ≤ l.length → rawI l k = segI l 0 k
  | 0, _ => rfl
  | k + 1, h => by
    have e : keptO l (0 + k) = keptB l k := by
      rw [Nat.zero_add]
      unfold keptO keptB prv nxt
      rw [Nat.mod_eq_of_lt (show k < l.length by omega)]
    rw [rawI, rawI_seg (show k ≤ l.length by omega), segI_succ, e, Nat.zero_add, cyc_lt (show k < l.length by omega)]
theorem cross_rev (a b c : Int × Int) : crossI c b a = -crossI a b c := by
  unfold crossI
  obtain ⟨a1, a2⟩ := a
  obtain ⟨b1, b2⟩ := b
  obtain ⟨c1, c2⟩ := c
  simp only [Int.sub_mul, Int.mul_sub]
  have e1 := Int.mul_comm a1 b2
  have e2 := Int.mul_comm a1 c2
  have e3 := Int.mul_comm b1 a2
  have e4 := Int.mul_comm b1 c2
  have e5 := Int.mul_comm c1 a2
  have e6 := Int.mul_comm c1 b2
  have e7 := Int.mul_comm a1 a2
  have e8 := Int.mul_comm b1 b2
  have e9 := Int.mul_comm c1 c2
  omega
theorem sgn_zero (n : Int) : sgn n = 0 ↔ n = 0 := by
  unfold sgn
  split <;> (try split) <;> omega
theorem turn_zero (a b c : Int × Int) : turnS a b c = 0 ↔ crossI a b c = 0 := sgn_zero _
theorem turn_rev0 (a b c : Int × Int) : turnS c b a = 0 ↔ turnS a b c = 0 := by
  rw [turn_zero, turn_zero, cross_rev]
  omega
theorem cyc_rev {l : List (Int × Int)} {a : Nat} (h : a < l.length) : cyc l.reverse a = cyc l (l.length - 1 - a) := by
  rw [cyc_lt (by rw [List.length_reverse]; exact h), at2_rev l h, cyc_lt (by omega)]
theorem keptO_rev {l : List (Int × Int)} {i : Nat} (h : i < l.length) : keptO l.reverse i = keptO l (l.length - 1 - i) := by
  have hl : l.reverse.length = l.length := List.length_reverse
  have e1 : cyc l.reverse (i + l.reverse.length - 1) = cyc l (l.length - 1 - i + 1) := by
    rw [hl]
    by_cases h0 : i = 0
    · rw [h0, show 0 + l.length - 1 = l.length - 1 by omega, cyc_rev (show l.length - 1 < l.length by omega), show l.length - 1 - 0 + 1 = 0 + l.length by omega, cyc_add]
      congr 1
      omega
    · rw [show i + l.length - 1 = i - 1 + l.reverse.length by omega, cyc_add, cyc_rev (by omega)]
      congr 1
      omega
  have e2 : cyc l.reverse (i + 1) = cyc l (l.length - 1 - i + l.length - 1) := by
    by_cases h1 : i + 1 = l.length
    · rw [show i + 1 = 0 + l.reverse.length by omega, cyc_add, cyc_rev (by omega)]
      congr 1
      omega
    · rw [cyc_rev (by omega), show l.length - 1 - i + l.length - 1 = l.length - 1 - (i + 1) + l.length by omega, cyc_add]
  rw [keptO_cyc, keptO_cyc, e1, cyc_rev h, e2]
  congr 1
  exact decide_eq_decide.2 (turn_rev0 _ _ _)
theorem segI_rev {l : List (Int × Int)} (s : Nat) : ∀ k, s + k ≤ l.length → (segI l.reverse s k).reverse = segI l (l.length - s - k) k
  | 0, _ => rfl
  | k + 1, h => by
    have e : segI l (l.length - s - (k + 1)) (k + 1) = segI l (l.length - s - (k + 1)) (1 + k) := by rw [Nat.add_comm]
    rw [segI_succ, List.reverse_append, segI_rev s k (by omega), keptO_rev (by omega), cyc_rev (by omega), e, segI_one]
    have e1 : l.length - 1 - (s + k) = l.length - s - (k + 1) := by omega
    have e2 : l.length - s - (k + 1) + 1 = l.length - s - k := by omega
    rw [e1, e2]
    congr 1
    split <;> rfl
theorem rawI_rev (l : List (Int × Int)) : rawI l.reverse l.reverse.length = (rawI l l.length).reverse := by
  rw [rawI_seg (Nat.le_refl _), rawI_seg (Nat.le_refl _), List.length_reverse]
  have := segI_rev (l := l) 0 l.length (by omega)
  rw [show l.length - 0 - l.length = 0 by omega] at this
  rw [← this, List.reverse_reverse]
theorem segI_mem {o : List (Int × Int)} {f : Nat} {p : Int × Int} : ∀ {k}, p ∈ segI o f k → ∃ j, j < k ∧ p = cyc o (f + j)
  | 0, h => by cases h
  | k + 1, h => by
    rw [segI_succ] at h
    rcases List.mem_append.1 h with h | h
    · obtain ⟨j, hj, e⟩ := segI_mem h
      exact ⟨j, by omega, e⟩
    · split at h
      · exact ⟨k, by omega, List.mem_singleton.1 h⟩
      · cases h
/-! ### the area -/
theorem cross_cr (a b c : Int × Int) : crossI a b c = cr a b + cr b c - cr a c := by
  unfold crossI cr
  obtain ⟨a1, a2⟩ := a
  obtain ⟨b1, b2⟩ := b
  obtain ⟨c1, c2⟩ := c
  simp only [Int.sub_mul, Int.mul_sub]
  have e3 := Int.mul_comm b1 a2
  have e5 := Int.mul_comm c1 a2
  have e6 := Int.mul_comm c1 b2
  have e7 := Int.mul_comm a1 a2
  have e1 := Int.mul_comm a1 b2
  have e2 := Int.mul_comm a1 c2
  have e4 := Int.mul_comm b1 c2
  omega
theorem coll_trans {p a b c : Int × Int} (hab : a ≠ b) (h1 : crossI p a b = 0) (h2 : crossI a b c = 0) : crossI p b c = 0 := by
  obtain ⟨p1, p2⟩ := p
  obtain ⟨a1, a2⟩ := a
  obtain ⟨b1, b2⟩ := b
  obtain ⟨c1, c2⟩ := c
  unfold crossI at *
  simp only at *
  have hne : ¬ (b1 - a1 = 0 ∧ b2 - a2 = 0) := fun h => hab (by
    have e1 : a1 = b1 := by omega
    have e2 : a2 = b2 := by omega
    rw [e1, e2])
  have k1 : (b1 - a1) * (b2 - p2) = (b2 - a2) * (b1 - p1) := by
    simp only [Int.sub_mul, Int.mul_sub] at h1 ⊢
    have e1 := Int.mul_comm a1 b2
    have e2 := Int.mul_comm a1 p2
    have e3 := Int.mul_comm b1 a2
    have e4 := Int.mul_comm b1 p2
    have e5 := Int.mul_comm p1 a2
    have e6 := Int.mul_comm p1 b2
    have e7 := Int.mul_comm a1 a2
    have e8 := Int.mul_comm b1 b2
    have e9 := Int.mul_comm p1 p2
    omega
  have k2 : (b1 - a1) * (c2 - b2) = (b2 - a2) * (c1 - b1) := by
    simp only [Int.sub_mul, Int.mul_sub] at h2 ⊢
    have e1 := Int.mul_comm a1 b2
    have e2 := Int.mul_comm a1 c2
    have e3 := Int.mul_comm b1 a2
    have e4 := Int.mul_comm b1 c2
    have e5 := Int.mul_comm c1 a2
    have e6 := Int.mul_comm c1 b2
    have e7 := Int.mul_comm a1 a2
    have e8 := Int.mul_comm b1 b2
    omega
  have := para (ex := b1 - p1) (ey := b2 - p2) (wx := b1 - a1) (wy := b2 - a2) (vx := c1 - b1) (vy := c2 - b2) hne k1 k2
  simp only [Int.sub_mul, Int.mul_sub] at this ⊢
  have e1 := Int.mul_comm p1 b2
  have e2 := Int.mul_comm p1 c2
  have e3 := Int.mul_comm b1 p2
  have e4 := Int.mul_comm b1 c2
  have e5 := Int.mul_comm c1 p2
  have e6 := Int.mul_comm c1 b2
  have e7 := Int.mul_comm p1 p2
  have e8 := Int.mul_comm b1 b2
  omega
theorem cyc_ne {o : List (Int × Int)} (hnd : o.Nodup) (h2 : 2 ≤ o.length) (k : Nat) : cyc o k ≠ cyc o (k + 1) := by
  intro e
  have h0 : 0 < o.length := by omega
  have := nodup_at hnd (Nat.mod_lt k h0) (Nat.mod_lt (k + 1) h0) e
  have h3 := next_ne (n := o.length) h2 (Nat.mod_lt k h0)
  rw [Nat.mod_add_mod] at h3
  exact h3 this
theorem chain {o : List (Int × Int)} (hnd : o.Nodup) (h2 : 2 ≤ o.length) {f : Nat} (hf : keptO o f = true) : ∀ k, 0 < (segI o f (k + 1)).length ∧ at2 (segI o f (k + 1)) 0 = cyc o f ∧
    sumC o f (k + 1) = paI (segI o f (k + 1)) ((segI o f (k + 1)).length - 1) + cr (at2 (segI o f (k + 1)) ((segI o f (k + 1)).length - 1)) (cyc o (f + k + 1)) ∧
    crossI (at2 (segI o f (k + 1)) ((segI o f (k + 1)).length - 1)) (cyc o (f + k)) (cyc o (f + k + 1)) = 0
  | 0 => by
    have e : segI o f (0 + 1) = [cyc o f] := by
      rw [segI_succ, Nat.add_zero, if_pos hf]
      rfl
    rw [e]
    refine ⟨Nat.one_pos, rfl, ?_, ?_⟩
    · show (0 : Int) + cr (cyc o (f + 0)) (cyc o (f + 0 + 1)) = 0 + cr (cyc o f) _
      rw [Nat.add_zero]
    · show crossI (cyc o f) (cyc o (f + 0)) _ = 0
      rw [Nat.add_zero]
      unfold crossI
      rw [Int.sub_self, Int.sub_self]
      omega
  | k + 1 => by
    obtain ⟨i1, i2, i3, i4⟩ := chain hnd h2 hf k
    rw [segI_succ o f (k + 1)]
    have hs : sumC o f (k + 1 + 1) = sumC o f (k + 1) + cr (cyc o (f + (k + 1))) (cyc o (f + (k + 1) + 1)) := rfl
    rw [hs]
    generalize segI o f (k + 1) = R at i1 i2 i3 i4 ⊢
    by_cases hk : keptO o (f + (k + 1)) = true
    · rw [if_pos hk]
      have hlen : (R ++ [cyc o (f + (k + 1))]).length - 1 = R.length := by rw [List.length_append]; rfl
      obtain ⟨m, hm⟩ : ∃ m, R.length = m + 1 := ⟨R.length - 1, by omega⟩
      have hm' : R.length - 1 = m := by omega
      rw [hm'] at i3 i4
      refine ⟨by rw [List.length_append]; omega, by rw [at2_app i1, i2], ?_, ?_⟩
      · rw [hlen, at2_end]
        conv => rhs; rw [hm]
        rw [paI, paI_app (by omega), at2_app (by omega), ← hm, at2_end, i3]
        rfl
      · rw [hlen, at2_end]
        unfold crossI
        rw [Int.sub_self, Int.sub_self]
        omega
    · rw [if_neg hk, List.append_nil]
      refine ⟨i1, i2, ?_, ?_⟩
      · have hz : crossI (cyc o (f + k)) (cyc o (f + (k + 1))) (cyc o (f + (k + 1) + 1)) = 0 := by
          rw [← turn_zero]
          have := hk
          rw [keptO_cyc, show f + (k + 1) + o.length - 1 = f + k + o.length by omega, cyc_add] at this
          simpa using this
        have hc := coll_trans (cyc_ne hnd h2 (f + k)) i4 hz
        have h3 := cross_cr (at2 R (R.length - 1)) (cyc o (f + k + 1)) (cyc o (f + k + 1 + 1))
        have e1 : f + (k + 1) = f + k + 1 := rfl
        rw [i3, e1]
        rw [e1] at hc
        omega
      · have hz : crossI (cyc o (f + k)) (cyc o (f + (k + 1))) (cyc o (f + (k + 1) + 1)) = 0 := by
          rw [← turn_zero]
          have := hk
          rw [keptO_cyc, show f + (k + 1) + o.length - 1 = f + k + o.length by omega, cyc_add] at this
          simpa using this
        exact coll_trans (cyc_ne hnd h2 (f + k)) i4 hz
theorem area_seg {o : List (Int × Int)} (hnd : o.Nodup) (h2 : 2 ≤ o.length) {f : Nat} (hf : keptO o f = true) : areaI (segI o f o.length) (segI o f o.length).length = areaI o o.length := by
  obtain ⟨m, hm⟩ : ∃ m, o.length = m + 1 := ⟨o.length - 1, by omega⟩
  have hc := chain hnd h2 hf m
  rw [← hm] at hc
  obtain ⟨i1, i2, i3, i4⟩ := hc
  rw [areaI_close i1, i2, areaI_sum (Nat.le_refl _), ← sumC_turn o f, i3, show f + m + 1 = f + o.length by omega, cyc_add]
end Go.Aw
