/-
  PlaneHolds: its body, for empty lists. No condition.
-/
import Derived.Test.YtmkcjbpekejgdaaGreatSe105
set_option linter.unusedSimpArgs false
set_option linter.unusedVariables false
noncomputable section
namespace Go.Aw
set_option maxRecDepth 100000
theorem law12n : bodyE 12 [.slice none 0 0] [] 0 (fun u _ _ => u = .bool true) := by
  repeat' (((conv => whnf); refine bm (fun g => ?_) (fun g => ?_)))
  all_goals (conv => whnf)
theorem law12e (c : Nat) : bodyE 12 [.slice (some ⟨0, 0, none⟩) 0 c] [(0, .cells false true 0 [])] 1 (fun u _ _ => u = .bool true) := by
  repeat' (((conv => whnf); refine bm (fun g => ?_) (fun g => ?_)))
  all_goals (conv => whnf)
end Go.Aw
