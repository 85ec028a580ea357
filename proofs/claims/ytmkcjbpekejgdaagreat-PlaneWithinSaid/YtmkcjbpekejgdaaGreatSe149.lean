/-
  Ways in one direction; segments that cross. Plain. No condition.
-/
import Derived.Test.YtmkcjbpekejgdaaGreatSe115
set_option linter.unusedSimpArgs false
set_option linter.unusedVariables false
namespace Go.Aw
theorem mulpos_iff {a b : Int} (ha : 0 < a) : (0 < a * b ↔ 0 < b) ∧ (a * b < 0 ↔ b < 0) := by
  rcases Int.lt_trichotomy b 0 with h1 | h1 | h1
  · have := Int.mul_neg_of_pos_of_neg ha h1
    omega
  · subst h1; rw [Int.mul_zero]; omega
  · have := Int.mul_pos ha h1
    omega
/-- Ways in one direction. -/
theorem par_sign {ux uy wx wy vx vy : Int} (hu : 0 < ux ∨ (ux = 0 ∧ 0 < uy)) (hw : 0 < wx ∨ (wx = 0 ∧ 0 < wy)) (hp : ux * wy = uy * wx) :
    (0 < ux * vy - uy * vx ↔ 0 < wx * vy - wy * vx) ∧ (ux * vy - uy * vx < 0 ↔ wx * vy - wy * vx < 0) := by
  rcases hu with hu | ⟨hu, hu2⟩
  · rcases hw with hw | ⟨hw, hw2⟩
    · have e : ux * (wx * vy - wy * vx) = wx * (ux * vy - uy * vx) := by grind
      have k1 := mulpos_iff hu (b := wx * vy - wy * vx)
      have k2 := mulpos_iff hw (b := ux * vy - uy * vx)
      rw [e] at k1
      exact ⟨k2.1.symm.trans k1.1, k2.2.symm.trans k1.2⟩
    · exfalso
      rw [hw, Int.mul_zero] at hp
      have := Int.mul_pos hu hw2
      omega
  · rcases hw with hw | ⟨hw, hw2⟩
    · exfalso
      rw [hu, Int.zero_mul] at hp
      have := Int.mul_pos hu2 hw
      omega
    · subst hu hw
      simp only [Int.zero_mul, Int.zero_sub]
      have k1 := mulpos_iff hu2 (b := vx)
      have k2 := mulpos_iff hw2 (b := vx)
      omega
theorem lex_sub {a b : Int × Int} : lessB a b = true ↔ (0 < b.1 - a.1 ∨ (b.1 - a.1 = 0 ∧ 0 < b.2 - a.2)) := by
  rw [less_lex]; omega
/-- Two points of a line, in order: what lies to which side of it. -/
theorem side_of {a b c d : Int × Int} (hab : lessB a b = true) (hcd : lessB c d = true) (hc : crossI a b c = 0) (hd : crossI a b d = 0) (p : Int × Int) :
    (0 < crossI a b p ↔ 0 < crossI c d p) ∧ (crossI a b p < 0 ↔ crossI c d p < 0) := by
  have h := par_sign (vx := p.1 - c.1) (vy := p.2 - c.2) (lex_sub.1 hab) (lex_sub.1 hcd) (by unfold crossI at hc hd; grind)
  have e : crossI a b p = (b.1 - a.1) * (p.2 - c.2) - (b.2 - a.2) * (p.1 - c.1) := by unfold crossI at hc ⊢; grind
  rw [e]
  exact h
/-- A piece that lies on both sides of a line is part of a segment that does. -/
theorem ext_side {a b c d e f : Int × Int} (hcd : lessB c d = true) (h1 : c = e ∨ lessB e c = true) (h2 : d = f ∨ lessB d f = true) (he : crossI c d e = 0) (hf : crossI c d f = 0) :
    (crossI a b c < 0 → 0 < crossI a b d → crossI a b e < 0 ∧ 0 < crossI a b f) ∧ (0 < crossI a b c → crossI a b d < 0 → 0 < crossI a b e ∧ crossI a b f < 0) := by
  have e1 : crossI a b d - crossI a b c = -((d.1 - c.1) * (b.2 - a.2) - (d.2 - c.2) * (b.1 - a.1)) := by unfold crossI; grind
  have e2 : crossI a b c - crossI a b e = -((c.1 - e.1) * (b.2 - a.2) - (c.2 - e.2) * (b.1 - a.1)) := by unfold crossI; grind
  have e3 : crossI a b f - crossI a b d = -((f.1 - d.1) * (b.2 - a.2) - (f.2 - d.2) * (b.1 - a.1)) := by unfold crossI; grind
  have k1 : crossI a b e = crossI a b c ∨ ((0 < (d.1 - c.1) * (b.2 - a.2) - (d.2 - c.2) * (b.1 - a.1) ↔ 0 < (c.1 - e.1) * (b.2 - a.2) - (c.2 - e.2) * (b.1 - a.1)) ∧ ((d.1 - c.1) * (b.2 - a.2) - (d.2 - c.2) * (b.1 - a.1) < 0 ↔ (c.1 - e.1) * (b.2 - a.2) - (c.2 - e.2) * (b.1 - a.1) < 0)) := by
    rcases h1 with h1 | h1
    · left; rw [h1]
    · right
      exact par_sign (lex_sub.1 hcd) (lex_sub.1 h1) (by unfold crossI at he; grind)
  have k2 : crossI a b f = crossI a b d ∨ ((0 < (d.1 - c.1) * (b.2 - a.2) - (d.2 - c.2) * (b.1 - a.1) ↔ 0 < (f.1 - d.1) * (b.2 - a.2) - (f.2 - d.2) * (b.1 - a.1)) ∧ ((d.1 - c.1) * (b.2 - a.2) - (d.2 - c.2) * (b.1 - a.1) < 0 ↔ (f.1 - d.1) * (b.2 - a.2) - (f.2 - d.2) * (b.1 - a.1) < 0)) := by
    rcases h2 with h2 | h2
    · left; rw [h2]
    · right
      exact par_sign (lex_sub.1 hcd) (lex_sub.1 h2) (by unfold crossI at hf; grind)
  generalize (d.1 - c.1) * (b.2 - a.2) - (d.2 - c.2) * (b.1 - a.1) = W at *
  generalize (c.1 - e.1) * (b.2 - a.2) - (c.2 - e.2) * (b.1 - a.1) = U at *
  generalize (f.1 - d.1) * (b.2 - a.2) - (f.2 - d.2) * (b.1 - a.1) = V at *
  generalize crossI a b c = C at *
  generalize crossI a b d = D at *
  generalize crossI a b e = E at *
  generalize crossI a b f = F at *
  refine ⟨fun q1 q2 => ?_, fun q1 q2 => ?_⟩
  · have hW : W < 0 := by omega
    constructor
    · rcases k1 with k | k
      · omega
      · have := k.2.1 hW; omega
    · rcases k2 with k | k
      · omega
      · have := k.2.1 hW; omega
  · have hW : 0 < W := by omega
    constructor
    · rcases k1 with k | k
      · omega
      · have := k.1.1 hW; omega
    · rcases k2 with k | k
      · omega
      · have := k.1.1 hW; omega
theorem turn_sg {a b c : Int × Int} : (turnS a b c = 1 ↔ 0 < crossI a b c) ∧ (turnS a b c = -1 ↔ crossI a b c < 0) ∧ (turnS a b c = 0 ↔ crossI a b c = 0) := by
  unfold turnS sgn
  refine ⟨?_, ?_, ?_⟩ <;> (split <;> (try split) <;> omega)
theorem prod_neg {a b c a' b' c' : Int × Int} : turnS a b c * turnS a' b' c' < 0 ↔ (crossI a b c < 0 ∧ 0 < crossI a' b' c') ∨ (0 < crossI a b c ∧ crossI a' b' c' < 0) := by
  have h1 := @turn_sg a b c
  have h2 := @turn_sg a' b' c'
  rcases Int.lt_trichotomy (crossI a b c) 0 with p | p | p <;> rcases Int.lt_trichotomy (crossI a' b' c') 0 with q | q | q
  all_goals
    first
    | rw [h1.1.2 p]
    | rw [h1.2.1.2 p]
    | rw [h1.2.2.2 p]
    first
    | rw [h2.1.2 q]
    | rw [h2.2.1.2 q]
    | rw [h2.2.2.2 q]
    omega
/-- Both ends of the one lie on different sides of the other: they cross. -/
theorem cross3 {s t : Sg} (h1 : turnS s.1 s.2 t.1 * turnS s.1 s.2 t.2 < 0) (h2 : turnS t.1 t.2 s.1 * turnS t.1 t.2 s.2 < 0) : meetS s t = 3 := by
  unfold meetS kindS
  have n0 : ∀ {x y : Int}, x * y < 0 → x ≠ 0 ∧ y ≠ 0 := fun {x y} h => ⟨fun e => by rw [e, Int.zero_mul] at h; omega, fun e => by rw [e, Int.mul_zero] at h; omega⟩
  obtain ⟨a1, a2⟩ := n0 h1
  obtain ⟨b1, b2⟩ := n0 h2
  rw [if_neg (by rintro ⟨e, -⟩; exact a1 e), if_neg (by omega), if_neg (by simp [b1, b2]), if_neg (by simp [b1, b2, a1, a2])]
end Go.Aw
