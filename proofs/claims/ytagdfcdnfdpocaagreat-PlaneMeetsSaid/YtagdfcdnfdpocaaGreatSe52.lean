/-
  PlaneMeets: its body. No condition.
-/
import Derived.Test.YtagdfcdnfdpocaaGreatSe51
set_option linter.unusedSimpArgs false
set_option linter.unusedVariables false
noncomputable section
namespace Go.Aw
set_option maxRecDepth 100000
attribute [local irreducible] MeetV crX crY crOk in
theorem law5 (s t : Sg) : Does1 [X19, X22, X23, X24, X25] 5 [sgv s, sgv t] (.bool true) := by
  have e1 : MeetV t s = MeetV s t := MeetV_sym s t
  have e2 : MeetV s (t.2, t.1) = MeetV s t := MeetV_back s t
  have e3 : crX (t.2, t.1) s = crX s t := crX_x s t
  have e4 : crY (t.2, t.1) s = crY s t := crY_x s t
  have e5 : crOk (t.2, t.1) s = crOk s t := crOk_x s t
  obtain ⟨⟨ax, ay⟩, ⟨bx, b2⟩⟩ := s
  obtain ⟨⟨cx, cy⟩, ⟨dx, dy⟩⟩ := t
  unfold Does1
  repeat' ((conv => whnf); refine bm (fun g => ?_) (fun g => ?_))
  all_goals (conv => whnf)
  all_goals (simp only [cA_eq, cA_eqB, cA_andB, cA_notB, beq_iff_eq, beq_eq_false_iff_ne, ne_eq, Bool.not_eq_true', Bool.not_eq_false', Bool.and_true, decide_true, Bool.not_true, pEta, sEta', e1, e2, e3, e4, e5] at *)
  all_goals first
    | (exfalso; simp at *; done)
    | (simp; done)
    | trace_state
end Go.Aw
