/-
  Above: exchanged segments; never level. Plain arithmetic. No condition.
-/
import Derived.Test.YtagdfcdnfdpocaaGreatSe30
set_option linter.unusedSimpArgs false
set_option linter.unusedVariables false
noncomputable section
namespace Go.Aw
def vertS (s : Sg) : Bool := decide (s.1.1 = s.2.1)
def fromX (s t : Sg) : Int := mx (endsS s).1.1 (endsS t).1.1
def toX (s t : Sg) : Int := mn (endsS s).2.1 (endsS t).2.1
def abOk (s t : Sg) : Bool := rightG s && rightG t && !(vertS s) && !(vertS t) && decide (fromX s t < toX s t) && !(hitS s t)
def abN (s t : Sg) : Int := if abOk s t = true then cmpH (heiS s (fromX s t + toX s t)) (heiS t (fromX s t + toX s t)) else 0
theorem mx_comm (a b : Int) : mx a b = mx b a := by unfold mx; split <;> split <;> omega
theorem mn_comm (a b : Int) : mn a b = mn b a := by unfold mn; split <;> split <;> omega
theorem hit_sym {s t : Sg} (hs : rightG s = true) (ht : rightG t = true) : hitS t s = hitS s t := by
  unfold hitS
  rw [meet_sym s t hs ht]
theorem abOk_sym (s t : Sg) : abOk t s = abOk s t := by
  unfold abOk fromX toX
  cases hs : rightG s with
  | false => simp
  | true =>
    cases ht : rightG t with
    | false => simp
    | true =>
      rw [hit_sym hs ht, mx_comm (endsS t).1.1, mn_comm (endsS t).2.1]
      cases vertS s <;> cases vertS t <;> simp
theorem cmp_neg (a b : Int) : cmpI b a = -cmpI a b := by unfold cmpI; split <;> split <;> (try split) <;> (try split) <;> omega
theorem abN_sym (s t : Sg) : abN t s = -abN s t := by
  unfold abN
  rw [abOk_sym]
  split
  · have e1 : fromX t s = fromX s t := mx_comm _ _
    have e2 : toX t s = toX s t := mn_comm _ _
    rw [e1, e2]
    exact cmp_neg _ _
  · rfl
/-- a straight function that is zero within has other signs at the ends -/
theorem straight {A B u q : Int} (hu : 0 < u) (hq : u < 2 * q) (h : 2 * q * A + u * (B - A) = 0) : (A = 0 ∧ B = 0) ∨ A * B < 0 := by
  have h2 : (2 * q - u) * A = -(u * B) := by
    rw [Int.sub_mul, Int.mul_sub] at *
    omega
  by_cases hA : A = 0
  · subst hA
    rw [Int.mul_zero] at h2
    have : u * B = 0 := by omega
    rcases Int.mul_eq_zero.1 this with h3 | h3
    · omega
    · exact .inl ⟨rfl, h3⟩
  · right
    by_cases hp : 0 < A
    · have h3 : 0 < (2 * q - u) * A := Int.mul_pos (by omega) hp
      have h4 : B < 0 := by
        by_cases hB : B < 0
        · exact hB
        · have := Int.mul_nonneg (show 0 ≤ u by omega) (show 0 ≤ B by omega)
          omega
      exact Int.mul_neg_of_pos_of_neg hp h4
    · have h3 : (2 * q - u) * A < 0 := Int.mul_neg_of_pos_of_neg (by omega) (by omega)
      have h4 : 0 < B := by
        by_cases hB : 0 < B
        · exact hB
        · have : u * B ≤ 0 := Int.mul_nonpos_of_nonneg_of_nonpos (by omega) (by omega)
          omega
      exact Int.mul_neg_of_neg_of_pos (by omega) h4
/-- heights that are level, seen from the one segment -/
theorem level {a b c d : Int × Int} {x2 : Int} (hs : a.1 < b.1) (ht : c.1 < d.1) (hx : 2 * c.1 < x2) (hx2 : x2 < 2 * d.1)
    (h : (atH a b x2).1 * (atH c d x2).2 = (atH c d x2).1 * (atH a b x2).2) : (crossI a b c = 0 ∧ crossI a b d = 0) ∨ crossI a b c * crossI a b d < 0 := by
  refine straight (u := x2 - 2 * c.1) (q := d.1 - c.1) (by omega) (by omega) ?_
  obtain ⟨a1, a2⟩ := a
  obtain ⟨b1, b2⟩ := b
  obtain ⟨c1, c2⟩ := c
  obtain ⟨d1, d2⟩ := d
  unfold atH crossI at *
  simp only at *
  clear hs ht hx hx2
  simp only [Int.two_mul] at *
  simp only [Int.mul_add, Int.add_mul, Int.mul_sub, Int.sub_mul] at *
  simp only [Int.mul_assoc, Int.mul_comm, Int.mul_left_comm] at *
  omega
theorem sgn_zero (n : Int) : sgn n = 0 ↔ n = 0 := by
  unfold sgn
  split <;> (try split) <;> omega
theorem prod_ne {A B : Int} (h : A * B < 0) : A ≠ 0 ∧ B ≠ 0 := by
  constructor
  · rintro rfl; rw [Int.zero_mul] at h; omega
  · rintro rfl; rw [Int.mul_zero] at h; omega
theorem back_left (s t : Sg) (hs : rightG s = true) (ht : rightG t = true) : meetS (back s) t = meetS s t := by
  rw [meet_sym t (back s) ht (rightG_back hs), meet_back t s hs, meet_sym t s ht hs]
theorem ends_or (s : Sg) : endsS s = s ∨ endsS s = back s := by
  unfold endsS back
  split
  · exact .inr rfl
  · exact .inl rfl
theorem hit_ends (s t : Sg) (hs : rightG s = true) (ht : rightG t = true) : meetS (endsS s) (endsS t) = meetS s t := by
  rcases ends_or s with e | e <;> rcases ends_or t with f | f <;> rw [e, f]
  · exact meet_back s t ht
  · exact back_left s t hs ht
  · rw [back_left s (back t) hs (rightG_back ht), meet_back s t ht]
theorem ends_rightG {s : Sg} (hs : rightG s = true) : rightG (endsS s) = true := by
  rcases ends_or s with e | e <;> rw [e]
  · exact hs
  · exact rightG_back hs
theorem ends_ends {s : Sg} (hs : rightG s = true) : endsS (endsS s) = endsS s := by
  rcases ends_or s with e | e
  · rw [e, e]
  · rw [e, ends_back s hs, e]
theorem ends_x {s : Sg} (hs : rightG s = true) (hv : vertS s = false) : (endsS s).1.1 < (endsS s).2.1 := by
  obtain ⟨ra, rb, hk⟩ := ends_key s hs
  have la := right_low ra
  have lb := right_low rb
  have hne : (endsS s).1.1 ≠ (endsS s).2.1 := by
    simp only [vertS, decide_eq_false_iff_not] at hv
    rcases ends_or s with e | e <;> rw [e]
    · exact hv
    · exact fun h => hv h.symm
  unfold key at hk
  omega
theorem not_level {s t : Sg} (h : abOk s t = true) : abN s t ≠ 0 := by
  unfold abN
  rw [if_pos h]
  simp only [abOk, Bool.and_eq_true, Bool.not_eq_true', decide_eq_true_eq] at h
  obtain ⟨⟨⟨⟨⟨hs, ht⟩, vs⟩, vt⟩, hx⟩, hh⟩ := h
  intro h0
  have xs := ends_x hs vs
  have xt := ends_x ht vt
  obtain ⟨ra, rb, hka⟩ := ends_key s hs
  obtain ⟨rc, rd, hkc⟩ := ends_key t ht
  have hm : meetS (endsS s) (endsS t) = 3 ∨ meetS (endsS s) (endsS t) = 4 → False := by
    rw [hit_ends s t hs ht]
    intro h
    simp only [hitS, Bool.or_eq_false_iff, decide_eq_false_iff_not] at hh
    rcases h with h | h
    · exact hh.1 h
    · exact hh.2 h
  have e0 : (heiS s (fromX s t + toX s t)).1 * (heiS t (fromX s t + toX s t)).2 = (heiS t (fromX s t + toX s t)).1 * (heiS s (fromX s t + toX s t)).2 := by
    unfold cmpH cmpI at h0
    split at h0
    · cases h0
    · split at h0
      · cases h0
      · omega
  have hb : 2 * (endsS t).1.1 < fromX s t + toX s t ∧ fromX s t + toX s t < 2 * (endsS t).2.1 ∧ 2 * (endsS s).1.1 < fromX s t + toX s t ∧ fromX s t + toX s t < 2 * (endsS s).2.1 := by
    unfold fromX toX mx mn at *
    split at hx <;> split at hx <;> omega
  have L1 := level xs xt hb.1 hb.2.1 e0
  have L2 := level xt xs hb.2.2.1 hb.2.2.2 e0.symm
  have gs := ends_rightG hs
  have gt := ends_rightG ht
  apply hm
  rcases L1 with ⟨A, B⟩ | hAB
  · right
    have hz : turnS (endsS s).1 (endsS s).2 (endsS t).1 = 0 ∧ turnS (endsS s).1 (endsS s).2 (endsS t).2 = 0 := ⟨(turn0 _ _ _).2 A, (turn0 _ _ _).2 B⟩
    unfold meetS
    rw [if_pos hz, ord_key (low_key _ _ gs gt).1 (high_key _ _ gs gt).1, tbl_cmp, if_pos]
    rw [(low_key _ _ gs gt).2, (high_key _ _ gs gt).2, ends_ends hs, ends_ends ht]
    have la := right_low ra
    have lb := right_low rb
    have lc := right_low rc
    have ld := right_low rd
    unfold fromX toX mx mn at hx
    unfold key at *
    split at hx <;> split at hx <;> omega
  · left
    have hn := prod_ne hAB
    have hz : ¬ (turnS (endsS s).1 (endsS s).2 (endsS t).1 = 0 ∧ turnS (endsS s).1 (endsS s).2 (endsS t).2 = 0) := fun h => hn.1 ((turn0 _ _ _).1 h.1)
    rcases L2 with ⟨C, D⟩ | hCD
    · exact absurd (same_line (endsS s) (endsS t) (right_two gt).2.2 ⟨(turn0 _ _ _).2 C, (turn0 _ _ _).2 D⟩) hz
    · have hn2 := prod_ne hCD
      unfold meetS
      rw [if_neg hz]
      have m1 := (sgn_mul _ _).2 (Int.le_of_lt hAB)
      have m2 := (sgn_mul _ _).2 (Int.le_of_lt hCD)
      have z1 : ¬ turnS (endsS s).1 (endsS s).2 (endsS t).1 = 0 := fun h => hn.1 ((turn0 _ _ _).1 h)
      have z2 : ¬ turnS (endsS s).1 (endsS s).2 (endsS t).2 = 0 := fun h => hn.2 ((turn0 _ _ _).1 h)
      have z3 : ¬ turnS (endsS t).1 (endsS t).2 (endsS s).1 = 0 := fun h => hn2.1 ((turn0 _ _ _).1 h)
      have z4 : ¬ turnS (endsS t).1 (endsS t).2 (endsS s).2 = 0 := fun h => hn2.2 ((turn0 _ _ _).1 h)
      unfold kindS
      rw [if_neg, if_neg, if_neg]
      · rintro ((h | h) | (h | h)) <;> contradiction
      · rintro ⟨h | h, _⟩ <;> contradiction
      · rintro (h | h)
        · have : turnS (endsS s).1 (endsS s).2 (endsS t).1 * turnS (endsS s).1 (endsS s).2 (endsS t).2 ≤ 0 := m1
          omega
        · have : turnS (endsS t).1 (endsS t).2 (endsS s).1 * turnS (endsS t).1 (endsS t).2 (endsS s).2 ≤ 0 := m2
          omega
end Go.Aw
