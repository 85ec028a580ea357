/-
  PlaneSplits: its body, for lists that are not empty. No condition.
-/
import Derived.Test.YtmkcjbpekejgdaaGreatSe123
import Derived.Test.YtmkcjbpekejgdaaGreatSe121
import Derived.Test.YtmkcjbpekejgdaaGreatSe124
import Derived.Test.YtmkcjbpekejgdaaGreatSe12
set_option linter.unusedSimpArgs false
set_option linter.unusedVariables false
noncomputable section
namespace Go.Aw
set_option maxRecDepth 100000
def X39g : Nat × XF := (39, rfX elS elS S39)
def X40g : Nat × XF := (40, rfX elS elS S39)
theorem splO_len (l : List Sg) : (splO l).length ≤ l.length * (1 + 2 * l.length) := by
  unfold splO
  split
  · rw [dedG_eq]
    have h1 := fold_le (outS l l.length) []
    have h2 := outS_len l l.length
    simp only [List.length_nil] at h1
    omega
  · exact Nat.zero_le _
attribute [local irreducible] splO splE sameGB in
theorem law10 (l : List Sg) (h0 : 0 < l.length) (c : Nat) : body [X19, X39g, X40g, D41] 10 [.slice (some ⟨0, 0, none⟩) l.length c] [(0, .cells false true 4 (flat elS.fl l))] 1 (fun u _ _ => u = .bool true) := by
  have hs : ∀ O, sameGB O O = true := fun O => by unfold sameGB; exact decide_eq_true rfl
  ((conv => whnf); refine bm (fun g1 => ?_) (fun g1 => ?_))
  · (conv => whnf)
  · have hlen : l.length ≤ 30 := by simp only [cA_lt, cA_num, decide_eq_false_iff_not] at g1; omega
    have hlen' : l.length ≤ 1000000000 := by omega
    have hd0 : decide (0 < l.length) = true := decide_eq_true h0
    have hd1 : decide (l.length ≤ 1000000000) = true := decide_eq_true hlen'
    obtain ⟨O, hO⟩ : ∃ O, splO l = O := ⟨_, rfl⟩
    have hl1 : O.length ≤ 30 * 61 := by
      rw [← hO]
      exact Nat.le_trans (splO_len l) (Nat.mul_le_mul hlen (by omega))
    rcases O with _ | ⟨a, t⟩
    · repeat' first
        | (exfalso
           simp only [hd0, hd1, Bool.and_true] at g
           cases g
           done)
        | (((conv => whnf); refine bm (fun g => ?_) (fun g => ?_)))
        | ((conv => whnf)
           rw [hO])
        | ((conv => whnf)
           refine Exists.intro l (And.intro (LsAt_own elS rfl) ?_))
        | ((conv => whnf)
           refine Exists.intro [] (Exists.intro [] (And.intro ⟨rfl, rfl, rfl⟩ (And.intro ⟨rfl, rfl, rfl⟩ ?_))))
      all_goals (conv => whnf)
      all_goals first
        | (exfalso; simp [cA_eq, cA_eqB, hs, hlen'] at g; done)
        | (show Value.bool (sameGB _ _) = .bool true; rw [hs]; done)
        | (exfalso; simp only [List.length_cons, decide_eq_false_iff_not] at g hl1; omega)
        | trace_state
    · repeat' first
        | (exfalso
           simp only [hd0, hd1, Bool.and_true] at g
           cases g
           done)
        | (((conv => whnf); refine bm (fun g => ?_) (fun g => ?_)))
        | ((conv => whnf)
           rw [hO])
        | ((conv => whnf)
           refine Exists.intro l (And.intro (LsAt_own elS rfl) ?_))
        | ((conv => whnf)
           refine Exists.intro (a :: t) (Exists.intro (a :: t) (And.intro (LsAt_n elS rfl rfl) (And.intro (LsAt_n elS rfl rfl) ?_))))
      all_goals (conv => whnf)
      all_goals first
        | (exfalso; simp [cA_eq, cA_eqB, hs, hlen'] at g; done)
        | (show Value.bool (sameGB _ _) = .bool true; rw [hs]; done)
        | (exfalso; simp only [List.length_cons, decide_eq_false_iff_not] at g hl1; omega)
        | trace_state
end Go.Aw
