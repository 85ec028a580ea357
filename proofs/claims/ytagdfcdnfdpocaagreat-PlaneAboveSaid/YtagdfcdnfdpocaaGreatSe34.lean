/-
  PlaneAbove: its body. No condition.
-/
import Derived.Test.YtagdfcdnfdpocaaGreatSe33
set_option linter.unusedSimpArgs false
set_option linter.unusedVariables false
noncomputable section
namespace Go.Aw
set_option maxRecDepth 100000
theorem cmpI_low (a b : Int) : -1 ≤ cmpI a b ∧ cmpI a b ≤ 1 := by
  unfold cmpI
  split <;> (try split) <;> omega
theorem abN_low (s t : Sg) : -1 ≤ abN s t ∧ abN s t ≤ 1 := by
  unfold abN
  split
  · exact cmpI_low _ _
  · omega
theorem law6 (s t : Sg) : Does1 [X19, X26, X27] 6 [sgv s, sgv t] (.bool true) := by
  have e1 := abN_sym s t
  have e2 := abOk_sym s t
  have e3 := @not_level s t
  have e4 := abN_low s t
  obtain ⟨⟨ax, ay⟩, ⟨bx, b2⟩⟩ := s
  obtain ⟨⟨cx, cy⟩, ⟨dx, dy⟩⟩ := t
  unfold Does1
  repeat' ((conv => whnf); refine bm (fun g => ?_) (fun g => ?_))
  all_goals (conv => whnf)
  all_goals (simp only [cA_eq, cA_eqB, cA_notB, cA_neg, cA_fits, fitsK, Bool.not_eq_true', beq_iff_eq, beq_eq_false_iff_ne, ne_eq, Bool.not_eq_false, Bool.not_eq_true, Bool.not_eq_false', decide_eq_true_eq, decide_eq_false_iff_not, pEta, e1, e2] at *)
  all_goals (generalize abN ((ax, ay), (bx, b2)) ((cx, cy), (dx, dy)) = n at *)
  all_goals (generalize abOk ((ax, ay), (bx, b2)) ((cx, cy), (dx, dy)) = b at *)
  all_goals (clear e1 e2)
  all_goals first
    | (rw [decide_eq_false (e3 (by assumption))]; rfl)
    | (exfalso; exact absurd trivial (by assumption))
    | (exfalso; omega)
    | (exfalso; simp only [Bool.and_eq_false_iff, decide_eq_false_iff_not] at *; omega)
    | trace_state
end Go.Aw
