/-
  PlaneTriangles: its body. No condition.
-/
import Derived.Test.YtmkcjbpekejgdaaGreatSe89
import Derived.Test.YtmkcjbpekejgdaaGreatSe12
set_option linter.unusedSimpArgs false
set_option linter.unusedVariables false
noncomputable section
namespace Go.Aw
set_option maxRecDepth 100000
def D25 : Nat × XF := (25, rfX elP elT S51)
def D26 : Nat × XF := (26, rfX elP elT S51)
theorem triL_len : ∀ f rest out, (triL f rest out).length ≤ out.length + f
  | 0, rest, out => by unfold triL; omega
  | f + 1, rest, out => by
    unfold triL
    split
    · split
      · omega
      · have := triL_len f (delI rest (fE rest rest.length).toNat) (out ++ [triE rest (fE rest rest.length).toNat])
        rw [List.length_append, List.length_singleton] at this
        omega
    · rw [List.length_append, List.length_singleton]
      omega
theorem triO_len (l : List (Int × Int)) : (triO l).length ≤ l.length := by
  unfold triO
  split
  · have h1 := triL_len (norR l).length (norR l) []
    have h2 := norR_len l
    unfold triN
    simp only [List.length_nil] at h1
    omega
  · exact Nat.zero_le _
attribute [local irreducible] polyE triO sameTB in
theorem law5 (l : List (Int × Int)) (c : Nat) : body [X19, D25, D26, D27] 5 [.slice (some ⟨0, 0, none⟩) l.length c] [(0, .cells false true 2 (flat elP.fl l))] 1 (fun u _ _ => u = .bool true) := by
  have hs : ∀ O, sameTB O O = true := fun O => by unfold sameTB; exact decide_eq_true rfl
  ((conv => whnf); refine bm (fun g1 => ?_) (fun g1 => ?_))
  · (conv => whnf)
  · have hlen : l.length ≤ 24 := by simp only [cA_lt, cA_num, decide_eq_false_iff_not] at g1; omega
    have hlen' : l.length ≤ 1000000000 := by omega
    obtain ⟨O, hO⟩ : ∃ O, triO l = O := ⟨_, rfl⟩
    have hl1 : O.length ≤ 24 := by rw [← hO]; exact Nat.le_trans (triO_len l) hlen
    rcases O with _ | ⟨a, t⟩
    · repeat' first
        | (((conv => whnf); refine bm (fun g => ?_) (fun g => ?_)))
        | ((conv => whnf)
           rw [hO])
        | ((conv => whnf)
           refine Exists.intro l (And.intro (LsAt_own elP rfl) ?_))
        | ((conv => whnf)
           refine Exists.intro [] (Exists.intro [] (And.intro ⟨rfl, rfl, rfl⟩ (And.intro ⟨rfl, rfl, rfl⟩ ?_))))
      all_goals (conv => whnf)
      all_goals first
        | (exfalso; simp [cA_eq, cA_eqB, hs, hlen'] at g; done)
        | (show Value.bool (sameTB _ _) = .bool true; rw [hs]; done)
        | (exfalso; simp only [List.length_cons, decide_eq_false_iff_not] at g hl1; omega)
        | trace_state
    · repeat' first
        | (((conv => whnf); refine bm (fun g => ?_) (fun g => ?_)))
        | ((conv => whnf)
           rw [hO])
        | ((conv => whnf)
           refine Exists.intro l (And.intro (LsAt_own elP rfl) ?_))
        | ((conv => whnf)
           refine Exists.intro (a :: t) (Exists.intro (a :: t) (And.intro (LsAt_n elT rfl rfl) (And.intro (LsAt_n elT rfl rfl) ?_))))
      all_goals (conv => whnf)
      all_goals first
        | (exfalso; simp [cA_eq, cA_eqB, hs, hlen'] at g; done)
        | (show Value.bool (sameTB _ _) = .bool true; rw [hs]; done)
        | (exfalso; simp only [List.length_cons, decide_eq_false_iff_not] at g hl1; omega)
        | trace_state
end Go.Aw
