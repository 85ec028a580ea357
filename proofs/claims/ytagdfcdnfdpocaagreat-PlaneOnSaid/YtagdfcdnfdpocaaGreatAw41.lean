/-
  Points on a line. Plain arithmetic. No condition.
-/
import Derived.WalkKit
namespace Go.Aw
theorem mul_pos_cancel {D u : Int} (hD : 0 < D) (h : 0 ≤ D * u) : 0 ≤ u := by
  by_cases hu : 0 ≤ u
  · exact hu
  · have : 0 < D * (-u) := Int.mul_pos hD (by omega)
    rw [Int.mul_neg] at this
    omega
theorem coll {D E t u : Int} (h : D * u = E * t) (hD : 0 < D) (h0 : 0 ≤ t) (h1 : t ≤ D) : (0 ≤ E → 0 ≤ u ∧ u ≤ E) ∧ (E ≤ 0 → E ≤ u ∧ u ≤ 0) := by
  refine ⟨fun hE => ⟨?_, ?_⟩, fun hE => ⟨?_, ?_⟩⟩
  · exact mul_pos_cancel hD (by rw [h]; exact Int.mul_nonneg hE h0)
  · have h2 : 0 ≤ D * (E - u) := by
      rw [Int.mul_sub, h, Int.mul_comm D E, ← Int.mul_sub]
      exact Int.mul_nonneg hE (by omega)
    have := mul_pos_cancel hD h2
    omega
  · have h2 : 0 ≤ D * (u - E) := by
      rw [Int.mul_sub, h, Int.mul_comm D E, ← Int.mul_sub]
      rw [show E * (t - D) = (-E) * (D - t) by rw [Int.neg_mul, ← Int.mul_neg]; congr 1; omega]
      exact Int.mul_nonneg (by omega) (by omega)
    have := mul_pos_cancel hD h2
    omega
  · have h2 : 0 ≤ D * (-u) := by
      rw [Int.mul_neg, h, ← Int.neg_mul]
      exact Int.mul_nonneg (by omega) h0
    have := mul_pos_cancel hD h2
    omega
theorem coll0 {D u : Int} (h : D * u = 0) (hD : D ≠ 0) : u = 0 := by
  rcases Int.mul_eq_zero.1 h with h | h
  · exact absurd h hD
  · exact h
/-- A point on the line of a and b, a left of b: between by order is between by both coordinates. -/
theorem lex_box {ax ay bx b2 px py : Int} (h : (bx - ax) * (py - ay) = (b2 - ay) * (px - ax)) (hlt : ax < bx) :
    ((ax < px ∨ (ax = px ∧ ay ≤ py)) ∧ (px < bx ∨ (px = bx ∧ py ≤ b2))) ↔ ((ax ≤ px ∧ px ≤ bx) ∧ ((ay ≤ b2 → ay ≤ py ∧ py ≤ b2) ∧ (b2 ≤ ay → b2 ≤ py ∧ py ≤ ay))) := by
  constructor
  · intro ⟨h1, h2⟩
    have hx : ax ≤ px ∧ px ≤ bx := by omega
    have hc := coll (D := bx - ax) (E := b2 - ay) (t := px - ax) (u := py - ay) h (by omega) (by omega) (by omega)
    refine ⟨hx, fun he => ?_, fun he => ?_⟩
    · have := hc.1 (by omega); omega
    · have := hc.2 (by omega); omega
  · intro ⟨h1, h2, h3⟩
    have hc := coll (D := bx - ax) (E := b2 - ay) (t := px - ax) (u := py - ay) h (by omega) (by omega) (by omega)
    refine ⟨?_, ?_⟩
    · by_cases e : ax < px
      · exact .inl e
      · have e : ax = px := by omega
        subst e
        rw [Int.sub_self, Int.mul_zero] at h
        have := coll0 h (by omega)
        exact .inr ⟨rfl, by omega⟩
    · by_cases e : px < bx
      · exact .inl e
      · have e : px = bx := by omega
        subst e
        have h4 : (px - ax) * (py - b2) = 0 := by
          rw [show py - b2 = (py - ay) - (b2 - ay) by omega, Int.mul_sub, h, Int.mul_comm (b2 - ay)]
          omega
        have := coll0 h4 (by omega)
        exact .inr ⟨rfl, by omega⟩
end Go.Aw
