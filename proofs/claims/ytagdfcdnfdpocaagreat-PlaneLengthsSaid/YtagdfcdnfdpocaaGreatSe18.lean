/-
  PlaneLengths: its body. No condition.
-/
import Derived.Test.YtagdfcdnfdpocaaGreatSeD
set_option linter.unusedSimpArgs false
set_option linter.unusedVariables false
noncomputable section
namespace Go.Aw
set_option maxRecDepth 100000
theorem law7 (l : List (Int × Int)) (c : Nat) : body [X19, X28, X29, X30, X31] 7 [.slice (some ⟨0, 0, none⟩) l.length c] [(0, .cells false true 2 (flat elP.fl l))] 1 (fun u _ _ => u = .bool true) := by
  conv => whnf
  refine bm (fun h1 => ?_) (fun h1 => ?_)
  · conv => whnf
  · have hlen : l.length ≤ 500 := by
      simp only [cA_lt, cA_num, decide_eq_false_iff_not] at h1
      omega
    conv => whnf
    refine ⟨l, LsAt_own elP rfl, ?_⟩
    conv => whnf
    refine bm (fun h2 => ?_) (fun h2 => ?_)
    · conv => whnf
      refine ⟨l, LsAt_own elP rfl, ?_⟩
      conv => whnf
      refine bm (fun h2 => ?_) (fun h2 => ?_)
      · conv => whnf
        refine ⟨l, LsAt_own elP rfl, ?_⟩
        conv => whnf
        refine bm (fun h2 => ?_) (fun h2 => ?_)
        · conv => whnf
          refine ⟨l, LsAt_own elP rfl, ?_⟩
          repeat' (conv => whnf
                   refine bm (fun g => ?_) (fun g => ?_))
          all_goals (conv => whnf)
          all_goals first | (simp [cfgS, std]; done) | (simp [cfgS, std] at g; done) | (simp [cfgS, std] at g; omega)
        · exact absurd (show l.length ≤ 1000000000 by omega) (by simpa using h2)
      · exact absurd (show l.length ≤ 1000000000 by omega) (by simpa using h2)
    · exact absurd (show l.length ≤ 1000000000 by omega) (by simpa using h2)
end Go.Aw
