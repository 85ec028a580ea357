/-
  PlanePolys: its body. No condition.
-/
import Derived.Test.YtagdfcdnfdpocaaGreatSe75
import Derived.Test.YtagdfcdnfdpocaaGreatSe61
import Derived.Test.YtagdfcdnfdpocaaGreatSe12
set_option linter.unusedSimpArgs false
set_option linter.unusedVariables false
noncomputable section
namespace Go.Aw
set_option maxRecDepth 100000
attribute [local irreducible] polyE Area2V convB in
theorem law8 (l : List (Int × Int)) (c : Nat) : body [X19, X32, X33, X34, X35, X36, X37] 8 [.slice (some ⟨0, 0, none⟩) l.length c] [(0, .cells false true 2 (flat elP.fl l))] 1 (fun u _ _ => u = .bool true) := by
  by_cases hlen : l.length ≤ 1000000000
  · have hd : decide (l.length ≤ 1000000000) = true := decide_eq_true hlen
    repeat' first
      | (((conv => whnf); refine bm (fun g => ?_) (fun g => ?_)))
      | ((conv => whnf)
         refine Exists.intro l (And.intro (LsAt_own elP rfl) ?_))
    all_goals (conv => whnf)
    all_goals first
      | (simp [cfgS, std]; done)
      | (exfalso
         have hg : decide (l.length ≤ 1000000000) = false := g
         rw [hd] at hg
         cases hg)
      | (exfalso; simp [cfgS, std] at g; done)
      | trace_state
  · repeat' (((conv => whnf); refine bm (fun g => ?_) (fun g => ?_)))
    all_goals (conv => whnf)
    all_goals first
      | (exfalso
         simp only [cA_lt, cA_le, cA_eqB, cA_num, beq_iff_eq, beq_eq_false_iff_ne, ne_eq, Bool.not_eq_true, Bool.not_eq_false, decide_eq_true_eq, decide_eq_false_iff_not] at *
         omega)
      | trace_state
end Go.Aw
