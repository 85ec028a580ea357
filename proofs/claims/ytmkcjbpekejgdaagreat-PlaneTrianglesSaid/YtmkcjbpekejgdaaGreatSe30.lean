/-
  Meet does not depend on order and direction; the points at which segments meet. Plain arithmetic. No condition.
-/
import Derived.Test.YtmkcjbpekejgdaaGreatSeF
import Derived.Test.YtmkcjbpekejgdaaGreatSe29
set_option linter.unusedSimpArgs false
set_option linter.unusedVariables false
namespace Go.Aw
theorem sgn_neg (n : Int) : sgn (-n) = -sgn n := by
  unfold sgn
  split <;> split <;> (try split) <;> (try split) <;> omega
theorem kind_sym (a b c d : Int) : kindS a b c d = kindS c d a b := by
  unfold kindS
  simp only [Or.comm (a := 0 < c * d), And.comm (a := c = 0 ∨ d = 0), Or.comm (a := c = 0 ∨ d = 0)]
theorem kind_back (a b c d : Int) : kindS b a (-c) (-d) = kindS a b c d := by
  unfold kindS
  simp only [Int.neg_mul_neg, Int.mul_comm b a, Int.neg_eq_zero, Or.comm (a := b = 0)]
def back (t : Sg) : Sg := (t.2, t.1)
theorem turn_back (t : Sg) (p : Int × Int) : turnS t.2 t.1 p = -turnS t.1 t.2 p := by
  unfold turnS
  rw [← sgn_neg]
  congr 1
  have := cross_base t.2 t.1 p t.1 (.inr rfl)
  rw [this, crossI, show t.1.1 - t.2.1 = -(t.2.1 - t.1.1) by omega, show t.1.2 - t.2.2 = -(t.2.2 - t.1.2) by omega, Int.neg_mul, Int.neg_mul]
  omega
theorem ends_back (t : Sg) (ht : rightG t = true) : endsS (back t) = endsS t := by
  obtain ⟨r1, r2, ns⟩ := right_two ht
  have n12 : key t.1 ≠ key t.2 := (eqP_keyf r1 r2).1 ((eqP_f _ _).2 ns)
  unfold endsS back
  simp only [ord_key r1 r2, ord_key r2 r1, cmp_gt]
  by_cases h : key t.2 < key t.1
  · rw [if_pos h, if_neg (by omega)]
  · rw [if_neg h, if_pos (by omega)]
theorem meet_back (s t : Sg) (ht : rightG t = true) : meetS s (back t) = meetS s t := by
  unfold meetS lowS highS
  rw [ends_back t ht]
  simp only [back, turn_back, kind_back, And.comm (a := turnS s.1 s.2 t.2 = 0)]
theorem rightG_back {t : Sg} (ht : rightG t = true) : rightG (back t) = true := by
  simp only [rightG, back, Bool.and_eq_true, Bool.not_eq_true'] at *
  exact ⟨⟨ht.1.2, ht.1.1⟩, by rw [eqP_comm]; exact ht.2⟩
theorem ends_key (s : Sg) (hs : rightG s = true) : rightS (endsS s).1 = true ∧ rightS (endsS s).2 = true ∧ key (endsS s).1 < key (endsS s).2 := by
  obtain ⟨r1, r2, ns⟩ := right_two hs
  have n12 : key s.1 ≠ key s.2 := (eqP_keyf r1 r2).1 ((eqP_f _ _).2 ns)
  unfold endsS
  simp only [ord_key r1 r2, cmp_gt]
  by_cases h : key s.2 < key s.1
  · rw [if_pos h]; exact ⟨r2, r1, h⟩
  · rw [if_neg h]; exact ⟨r1, r2, by simp only; omega⟩
theorem low_key (s t : Sg) (hs : rightG s = true) (ht : rightG t = true) : rightS (lowS s t) = true ∧ key (lowS s t) = max (key (endsS s).1) (key (endsS t).1) := by
  obtain ⟨ra1, ra2, _⟩ := ends_key s hs
  obtain ⟨rb1, rb2, _⟩ := ends_key t ht
  unfold lowS
  simp only [ord_key ra1 rb1, cmp_lt]
  by_cases hk : key (endsS s).1 < key (endsS t).1
  · rw [if_pos hk]; exact ⟨rb1, by omega⟩
  · rw [if_neg hk]; exact ⟨ra1, by omega⟩
theorem high_key (s t : Sg) (hs : rightG s = true) (ht : rightG t = true) : rightS (highS s t) = true ∧ key (highS s t) = min (key (endsS s).2) (key (endsS t).2) := by
  obtain ⟨ra1, ra2, _⟩ := ends_key s hs
  obtain ⟨rb1, rb2, _⟩ := ends_key t ht
  unfold highS
  simp only [ord_key rb2 ra2, cmp_lt]
  by_cases hk : key (endsS t).2 < key (endsS s).2
  · rw [if_pos hk]; exact ⟨rb2, by omega⟩
  · rw [if_neg hk]; exact ⟨ra2, by omega⟩
theorem meet_sym (s t : Sg) (hs : rightG s = true) (ht : rightG t = true) : meetS t s = meetS s t := by
  have ns := (right_two hs).2.2
  have nt := (right_two ht).2.2
  unfold meetS
  by_cases h : turnS s.1 s.2 t.1 = 0 ∧ turnS s.1 s.2 t.2 = 0
  · rw [if_pos h, if_pos (same_line t s ns h), ord_key (low_key t s ht hs).1 (high_key t s ht hs).1, ord_key (low_key s t hs ht).1 (high_key s t hs ht).1, (low_key t s ht hs).2, (high_key t s ht hs).2, (low_key s t hs ht).2, (high_key s t hs ht).2, Int.max_comm, Int.min_comm]
  · rw [if_neg h, if_neg fun h' => h (same_line s t nt h'), kind_sym]
/-- segments that meet in one point, the same from both sides -/
theorem ends_one (s t : Sg) (hs : rightG s = true) (ht : rightG t = true) (h : meetS s t = 1 ∨ meetS s t = 2) : ∃ p, endsL s t = [p] := by
  rw [meet_eq s t hs ht] at h
  unfold meetR at h
  split at h
  · split at h <;> omega
  · exact ⟨_, by assumption⟩
  · omega
theorem addE_mem {s t : Sg} {out : List (Int × Int)} {p x : Int × Int} : x ∈ addE s t out p ↔ x ∈ out ∨ (x = p ∧ onR p s = true ∧ onR p t = true) := by
  have hk : ∀ l, knownS p l = true ↔ p ∈ l := by
    intro l
    induction l with
    | nil => simp [knownS]
    | cons a r ih =>
      simp only [knownS, Bool.or_eq_true, ih, List.mem_cons, eqP_iff]
      constructor
      · rintro (h | h)
        · exact .inl h.symm
        · exact .inr h
      · rintro (h | h)
        · exact .inl h.symm
        · exact .inr h
  unfold addE
  split
  · rename_i h
    simp only [List.mem_append, List.mem_singleton]
    constructor
    · rintro (h1 | h1)
      · exact .inl h1
      · exact .inr ⟨h1, h.1, h.2.1⟩
    · rintro (h1 | h1)
      · exact .inl h1
      · exact .inr h1.1
  · rename_i h
    constructor
    · exact .inl
    · rintro (h1 | h1)
      · exact h1
      · have : knownS p out = true := by
          cases hq : knownS p out with
          | true => rfl
          | false => exact absurd ⟨h1.2.1, h1.2.2, hq⟩ h
        rw [h1.1]
        exact (hk out).1 this
theorem ends_mem {s t : Sg} {x : Int × Int} : x ∈ endsL s t ↔ (x = s.1 ∨ x = s.2 ∨ x = t.1 ∨ x = t.2) ∧ onR x s = true ∧ onR x t = true := by
  unfold endsL
  simp only [addE_mem, List.not_mem_nil, false_or]
  constructor
  · rintro (((⟨rfl, h⟩ | ⟨rfl, h⟩) | ⟨rfl, h⟩) | ⟨rfl, h⟩)
    · exact ⟨.inl rfl, h⟩
    · exact ⟨.inr (.inl rfl), h⟩
    · exact ⟨.inr (.inr (.inl rfl)), h⟩
    · exact ⟨.inr (.inr (.inr rfl)), h⟩
  · rintro ⟨rfl | rfl | rfl | rfl, h⟩
    · exact .inl (.inl (.inl ⟨rfl, h⟩))
    · exact .inl (.inl (.inr ⟨rfl, h⟩))
    · exact .inl (.inr ⟨rfl, h⟩)
    · exact .inr ⟨rfl, h⟩
end Go.Aw
