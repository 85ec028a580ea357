/-
  PlaneWhere: its body. No condition.
-/
import Derived.Test.YtagdfcdnfdpocaaGreatSe42
set_option linter.unusedSimpArgs false
set_option linter.unusedVariables false
noncomputable section
namespace Go.Aw
set_option maxRecDepth 100000
attribute [local irreducible] WhV in
theorem law10 (l : List (Int × Int)) (p : Int × Int) (c : Nat) : body [X19, X40, X41] 10 [.slice (some ⟨0, 0, none⟩) l.length c, ptv p] [(0, .cells false true 2 (flat elP.fl l))] 1 (fun u _ _ => u = .bool true) := by
  obtain ⟨px, py⟩ := p
  repeat' first
    | (((conv => whnf); refine bm (fun g => ?_) (fun g => ?_)))
    | ((conv => whnf)
       refine Exists.intro l (And.intro (LsAt_own elP rfl) ?_))
  all_goals (conv => whnf)
  all_goals (simp only [cA_lt, cA_le, cA_num, cA_eq, cA_eqB, beq_iff_eq, decide_eq_true_eq, decide_eq_false_iff_not, decide_true] at *)
  all_goals first
    | (rfl; done)
    | (exfalso; omega)
    | (exfalso; simp at *; done)
    | (exfalso; simp at *; omega)
    | trace_state
end Go.Aw
