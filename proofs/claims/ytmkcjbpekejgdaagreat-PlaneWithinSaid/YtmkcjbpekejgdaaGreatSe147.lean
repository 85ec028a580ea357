/-
  PlaneWithin: its body. No condition.
-/
import Derived.Test.YtmkcjbpekejgdaaGreatSe146
import Derived.Test.YtmkcjbpekejgdaaGreatSe12
set_option linter.unusedSimpArgs false
set_option linter.unusedVariables false
noncomputable section
namespace Go.Aw
set_option maxRecDepth 100000
attribute [local irreducible] wP wR in
theorem law9 (l : List (Int × Int)) (s : Sg) (c : Nat) : body [X19, XWp, XWr] 9 [.slice (some ⟨0, 0, none⟩) l.length c, sgv s] [(0, .cells false true 2 (flat elP.fl l))] 1 (fun u _ _ => u = .bool true) := by
  by_cases h30 : l.length ≤ 30
  · have hd : decide (l.length ≤ 1000000000) = true := decide_eq_true (by omega)
    have he : wP l s = wR l s := wPR l s
    repeat' first
      | (exfalso
         have hg : decide (l.length ≤ 1000000000) = false := g
         rw [hd] at hg
         cases hg
         done)
      | (((conv => whnf); refine bm (fun g => ?_) (fun g => ?_)))
      | ((conv => whnf)
         show ∃ x : List (Int × Int), _
         refine Exists.intro l (And.intro (LsAt_own elP rfl) ?_))
    all_goals (conv => whnf)
    all_goals first
      | rfl
      | (show Value.bool (cfgS.A.eqB (wP l s) (wR l s)) = .bool true
         rw [he, cA_eqB]
         simp
         done)
      | trace_state
  · ((conv => whnf); refine bm (fun g => ?_) (fun g => ?_))
    · (conv => whnf)
    · exfalso
      simp only [cA_lt, cA_num, decide_eq_false_iff_not] at g
      omega
end Go.Aw
