/-
  PlaneHulls: its body, for lists that are not empty. No condition.
-/
import Derived.Test.YtmkcjbpekejgdaaGreatSe103
import Derived.Test.YtmkcjbpekejgdaaGreatSe12
import Derived.Test.YtmkcjbpekejgdaaGreatSeI
set_option linter.unusedSimpArgs false
set_option linter.unusedVariables false
noncomputable section
namespace Go.Aw
set_option maxRecDepth 100000
def D33 : Nat × XF := (33, rfX elP elP S33)
def D34 : Nat × XF := (34, rfX elP elP S34)
theorem hulO_len (l : List (Int × Int)) (h0 : 0 < l.length) : (hulO l).length ≤ 2 * l.length := by
  unfold hulO
  split
  · rename_i h
    unfold hulE at h
    split at h
    · cases h
    · split at h
      · rename_i hr
        exact (hull_corners hr h0).1.len
      · cases h
  · exact Nat.zero_le _
attribute [local irreducible] hulO hulE samePB in
theorem law7 (l : List (Int × Int)) (h0 : 0 < l.length) (c : Nat) : body [X19, D33, D34, X48] 7 [.slice (some ⟨0, 0, none⟩) l.length c] [(0, .cells false true 2 (flat elP.fl l))] 1 (fun u _ _ => u = .bool true) := by
  have hs : ∀ O, samePB O O = true := fun O => by unfold samePB; exact decide_eq_true rfl
  obtain ⟨O, hO⟩ : ∃ O, hulO l = O := ⟨_, rfl⟩
  have hl1 : O.length ≤ 2 * l.length := by rw [← hO]; exact hulO_len l h0
  have hd0 : decide (0 < l.length) = true := decide_eq_true h0
  rcases O with _ | ⟨a, t⟩
  · repeat' first
      | (exfalso
         simp only [eqb_t, eqb_f, cA_eqB, cA_lt, cA_le, cA_andB, cA_num, hd0, Bool.and_true, Bool.not_eq_true', Bool.not_eq_false', Bool.and_eq_false_iff, decide_eq_true_eq, decide_eq_false_iff_not, List.length_cons, List.length_nil] at *
         omega)
      | (((conv => whnf); refine bm (fun g => ?_) (fun g => ?_)))
      | ((conv => whnf)
         rw [hO])
      | ((conv => whnf)
         refine Exists.intro l (And.intro (LsAt_own elP rfl) ?_))
      | ((conv => whnf)
         refine Exists.intro [] (Exists.intro [] (And.intro ⟨rfl, rfl, rfl⟩ (And.intro ⟨rfl, rfl, rfl⟩ ?_))))
    all_goals (conv => whnf)
    all_goals first
      | (show Value.bool (samePB _ _) = .bool true; rw [hs]; done)
      | (exfalso; simp [cA_eq, cA_eqB, hs] at g; done)
      | trace_state
  · repeat' first
      | (exfalso
         simp only [eqb_t, eqb_f, cA_eqB, cA_lt, cA_le, cA_andB, cA_num, hd0, Bool.and_true, Bool.not_eq_true', Bool.not_eq_false', Bool.and_eq_false_iff, decide_eq_true_eq, decide_eq_false_iff_not, List.length_cons, List.length_nil] at *
         omega)
      | (((conv => whnf); refine bm (fun g => ?_) (fun g => ?_)))
      | ((conv => whnf)
         rw [hO])
      | ((conv => whnf)
         refine Exists.intro l (And.intro (LsAt_own elP rfl) ?_))
      | ((conv => whnf)
         refine Exists.intro (a :: t) (Exists.intro (a :: t) (And.intro (LsAt_n elP rfl rfl) (And.intro (LsAt_n elP rfl rfl) ?_))))
    all_goals (conv => whnf)
    all_goals first
      | (show Value.bool (samePB _ _) = .bool true; rw [hs]; done)
      | (exfalso; simp [cA_eq, cA_eqB, hs] at g; done)
      | trace_state
end Go.Aw
