/-
  PlanePieces: its body, for empty lists. No condition.
-/
import Derived.Test.YtmkcjbpekejgdaaGreatSe126
set_option linter.unusedSimpArgs false
set_option linter.unusedVariables false
noncomputable section
namespace Go.Aw
set_option maxRecDepth 100000
theorem law11n : bodyEg 11 [.slice none 0 0] [] 0 (fun u _ _ => u = .bool true) := by
  repeat' (((conv => whnf); refine bm (fun g => ?_) (fun g => ?_)))
  all_goals (conv => whnf)
  all_goals rfl
theorem law11e (c : Nat) : bodyEg 11 [.slice (some ⟨0, 0, none⟩) 0 c] [(0, .cells false true 0 [])] 1 (fun u _ _ => u = .bool true) := by
  repeat' (((conv => whnf); refine bm (fun g => ?_) (fun g => ?_)))
  all_goals (conv => whnf)
  all_goals rfl
end Go.Aw
