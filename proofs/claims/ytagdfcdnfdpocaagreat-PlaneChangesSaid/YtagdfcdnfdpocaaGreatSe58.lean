/-
  PlaneChanges: its body. No condition.
-/
import Derived.Test.YtagdfcdnfdpocaaGreatSe57
set_option linter.unusedSimpArgs false
set_option linter.unusedVariables false
noncomputable section
namespace Go.Aw
set_option maxRecDepth 100000
theorem LsAt_at {α : Type} (E : El α) {l : List α} {k c : Nat} {wr g : Bool} {sz : Nat} {h : Heap} (hk : look h k = some (.cells wr g sz (flat E.fl l))) : LsAt E h (.slice (some ⟨k, 0, none⟩) l.length c) l :=
  ⟨rfl, wr, g, sz, _, hk, by rw [List.drop_zero, List.take_length]⟩
theorem chgO_len (l : List (Int × Int)) (b : Bool) (F : Int × Int → Int × Int) : (chgO l b F).length ≤ l.length := by
  unfold chgO
  split
  · rw [List.length_map]; exact Nat.le_refl _
  · exact Nat.zero_le _
attribute [local irreducible] chgO chgE samePB in
theorem law12 (l : List (Int × Int)) (dx dy : Int) (c : Nat) : body [X19, X42, X43, X44, X45, X46, X47, X48] 12 [.slice (some ⟨0, 0, none⟩) l.length c, iv dx, iv dy] [(0, .cells false true 2 (flat elP.fl l))] 1 (fun u _ _ => u = .bool true) := by
  have hs : ∀ O, samePB O O = true := fun O => by unfold samePB; exact decide_eq_true rfl
  ((conv => whnf); refine bm (fun h1 => ?_) (fun h1 => ?_))
  · (conv => whnf)
  · have hlen : l.length ≤ 500 := by simp only [cA_lt, cA_num, decide_eq_false_iff_not] at h1; omega
    obtain ⟨O1, hO1⟩ : ∃ O, chgO l ([1, dx, 1, dy].any outI) (affF 1 dx 1 dy) = O := ⟨_, rfl⟩
    obtain ⟨O2, hO2⟩ : ∃ O, chgO l ([-1, dx, 1, 0].any outI) (affF (-1) dx 1 0) = O := ⟨_, rfl⟩
    obtain ⟨O3, hO3⟩ : ∃ O, chgO l ([dy, 0, dy, 0].any outI) (affF dy 0 dy 0) = O := ⟨_, rfl⟩
    have hlen' : l.length ≤ 1000000000 := by omega
    have hl1 : O1.length ≤ 500 := by rw [← hO1]; exact Nat.le_trans (chgO_len _ _ _) hlen
    have hl2 : O2.length ≤ 500 := by rw [← hO2]; exact Nat.le_trans (chgO_len _ _ _) hlen
    have hl3 : O3.length ≤ 500 := by rw [← hO3]; exact Nat.le_trans (chgO_len _ _ _) hlen
    rcases O1 with _ | ⟨a1, t1⟩ <;> rcases O2 with _ | ⟨a2, t2⟩ <;> rcases O3 with _ | ⟨a3, t3⟩
    · repeat' first
        | (((conv => whnf); refine bm (fun g => ?_) (fun g => ?_)))
        | ((conv => whnf)
           rw [hO1])
        | ((conv => whnf)
           rw [hO2])
        | ((conv => whnf)
           rw [hO3])
        | ((conv => whnf)
           refine Exists.intro l (And.intro (LsAt_own elP rfl) ?_))
        | ((conv => whnf)
           refine Exists.intro [] (Exists.intro [] (And.intro ⟨rfl, rfl, rfl⟩ (And.intro ⟨rfl, rfl, rfl⟩ ?_))))
      all_goals (conv => whnf)
      all_goals first
        | (exfalso; simp [cA_eq, cA_eqB, hs, hlen'] at g; done)
        | (show Value.bool (samePB _ _) = .bool true; rw [hs]; done)
        | (exfalso; simp only [List.length_cons, decide_eq_false_iff_not] at g hl1 hl2 hl3; omega)
        | trace_state
    · repeat' first
        | (((conv => whnf); refine bm (fun g => ?_) (fun g => ?_)))
        | ((conv => whnf)
           rw [hO1])
        | ((conv => whnf)
           rw [hO2])
        | ((conv => whnf)
           rw [hO3])
        | ((conv => whnf)
           refine Exists.intro l (And.intro (LsAt_own elP rfl) ?_))
        | ((conv => whnf)
           refine Exists.intro [] (Exists.intro [] (And.intro ⟨rfl, rfl, rfl⟩ (And.intro ⟨rfl, rfl, rfl⟩ ?_))))
        | ((conv => whnf)
           refine Exists.intro (a3 :: t3) (Exists.intro (a3 :: t3) (And.intro (LsAt_at elP rfl) (And.intro (LsAt_at elP rfl) ?_))))
      all_goals (conv => whnf)
      all_goals first
        | (exfalso; simp [cA_eq, cA_eqB, hs, hlen'] at g; done)
        | (show Value.bool (samePB _ _) = .bool true; rw [hs]; done)
        | (exfalso; simp only [List.length_cons, decide_eq_false_iff_not] at g hl1 hl2 hl3; omega)
        | trace_state
    · repeat' first
        | (((conv => whnf); refine bm (fun g => ?_) (fun g => ?_)))
        | ((conv => whnf)
           rw [hO1])
        | ((conv => whnf)
           rw [hO2])
        | ((conv => whnf)
           rw [hO3])
        | ((conv => whnf)
           refine Exists.intro l (And.intro (LsAt_own elP rfl) ?_))
        | ((conv => whnf)
           refine Exists.intro [] (Exists.intro [] (And.intro ⟨rfl, rfl, rfl⟩ (And.intro ⟨rfl, rfl, rfl⟩ ?_))))
        | ((conv => whnf)
           refine Exists.intro (a2 :: t2) (Exists.intro (a2 :: t2) (And.intro (LsAt_at elP rfl) (And.intro (LsAt_at elP rfl) ?_))))
      all_goals (conv => whnf)
      all_goals first
        | (exfalso; simp [cA_eq, cA_eqB, hs, hlen'] at g; done)
        | (show Value.bool (samePB _ _) = .bool true; rw [hs]; done)
        | (exfalso; simp only [List.length_cons, decide_eq_false_iff_not] at g hl1 hl2 hl3; omega)
        | trace_state
    · repeat' first
        | (((conv => whnf); refine bm (fun g => ?_) (fun g => ?_)))
        | ((conv => whnf)
           rw [hO1])
        | ((conv => whnf)
           rw [hO2])
        | ((conv => whnf)
           rw [hO3])
        | ((conv => whnf)
           refine Exists.intro l (And.intro (LsAt_own elP rfl) ?_))
        | ((conv => whnf)
           refine Exists.intro [] (Exists.intro [] (And.intro ⟨rfl, rfl, rfl⟩ (And.intro ⟨rfl, rfl, rfl⟩ ?_))))
        | ((conv => whnf)
           refine Exists.intro (a2 :: t2) (Exists.intro (a2 :: t2) (And.intro (LsAt_at elP rfl) (And.intro (LsAt_at elP rfl) ?_))))
        | ((conv => whnf)
           refine Exists.intro (a3 :: t3) (Exists.intro (a3 :: t3) (And.intro (LsAt_at elP rfl) (And.intro (LsAt_at elP rfl) ?_))))
      all_goals (conv => whnf)
      all_goals first
        | (exfalso; simp [cA_eq, cA_eqB, hs, hlen'] at g; done)
        | (show Value.bool (samePB _ _) = .bool true; rw [hs]; done)
        | (exfalso; simp only [List.length_cons, decide_eq_false_iff_not] at g hl1 hl2 hl3; omega)
        | trace_state
    · repeat' first
        | (((conv => whnf); refine bm (fun g => ?_) (fun g => ?_)))
        | ((conv => whnf)
           rw [hO1])
        | ((conv => whnf)
           rw [hO2])
        | ((conv => whnf)
           rw [hO3])
        | ((conv => whnf)
           refine Exists.intro l (And.intro (LsAt_own elP rfl) ?_))
        | ((conv => whnf)
           refine Exists.intro [] (Exists.intro [] (And.intro ⟨rfl, rfl, rfl⟩ (And.intro ⟨rfl, rfl, rfl⟩ ?_))))
        | ((conv => whnf)
           refine Exists.intro (a1 :: t1) (Exists.intro (a1 :: t1) (And.intro (LsAt_at elP rfl) (And.intro (LsAt_at elP rfl) ?_))))
      all_goals (conv => whnf)
      all_goals first
        | (exfalso; simp [cA_eq, cA_eqB, hs, hlen'] at g; done)
        | (show Value.bool (samePB _ _) = .bool true; rw [hs]; done)
        | (exfalso; simp only [List.length_cons, decide_eq_false_iff_not] at g hl1 hl2 hl3; omega)
        | trace_state
    · repeat' first
        | (((conv => whnf); refine bm (fun g => ?_) (fun g => ?_)))
        | ((conv => whnf)
           rw [hO1])
        | ((conv => whnf)
           rw [hO2])
        | ((conv => whnf)
           rw [hO3])
        | ((conv => whnf)
           refine Exists.intro l (And.intro (LsAt_own elP rfl) ?_))
        | ((conv => whnf)
           refine Exists.intro [] (Exists.intro [] (And.intro ⟨rfl, rfl, rfl⟩ (And.intro ⟨rfl, rfl, rfl⟩ ?_))))
        | ((conv => whnf)
           refine Exists.intro (a1 :: t1) (Exists.intro (a1 :: t1) (And.intro (LsAt_at elP rfl) (And.intro (LsAt_at elP rfl) ?_))))
        | ((conv => whnf)
           refine Exists.intro (a3 :: t3) (Exists.intro (a3 :: t3) (And.intro (LsAt_at elP rfl) (And.intro (LsAt_at elP rfl) ?_))))
      all_goals (conv => whnf)
      all_goals first
        | (exfalso; simp [cA_eq, cA_eqB, hs, hlen'] at g; done)
        | (show Value.bool (samePB _ _) = .bool true; rw [hs]; done)
        | (exfalso; simp only [List.length_cons, decide_eq_false_iff_not] at g hl1 hl2 hl3; omega)
        | trace_state
    · repeat' first
        | (((conv => whnf); refine bm (fun g => ?_) (fun g => ?_)))
        | ((conv => whnf)
           rw [hO1])
        | ((conv => whnf)
           rw [hO2])
        | ((conv => whnf)
           rw [hO3])
        | ((conv => whnf)
           refine Exists.intro l (And.intro (LsAt_own elP rfl) ?_))
        | ((conv => whnf)
           refine Exists.intro [] (Exists.intro [] (And.intro ⟨rfl, rfl, rfl⟩ (And.intro ⟨rfl, rfl, rfl⟩ ?_))))
        | ((conv => whnf)
           refine Exists.intro (a1 :: t1) (Exists.intro (a1 :: t1) (And.intro (LsAt_at elP rfl) (And.intro (LsAt_at elP rfl) ?_))))
        | ((conv => whnf)
           refine Exists.intro (a2 :: t2) (Exists.intro (a2 :: t2) (And.intro (LsAt_at elP rfl) (And.intro (LsAt_at elP rfl) ?_))))
      all_goals (conv => whnf)
      all_goals first
        | (exfalso; simp [cA_eq, cA_eqB, hs, hlen'] at g; done)
        | (show Value.bool (samePB _ _) = .bool true; rw [hs]; done)
        | (exfalso; simp only [List.length_cons, decide_eq_false_iff_not] at g hl1 hl2 hl3; omega)
        | trace_state
    · repeat' first
        | (((conv => whnf); refine bm (fun g => ?_) (fun g => ?_)))
        | ((conv => whnf)
           rw [hO1])
        | ((conv => whnf)
           rw [hO2])
        | ((conv => whnf)
           rw [hO3])
        | ((conv => whnf)
           refine Exists.intro l (And.intro (LsAt_own elP rfl) ?_))
        | ((conv => whnf)
           refine Exists.intro (a1 :: t1) (Exists.intro (a1 :: t1) (And.intro (LsAt_at elP rfl) (And.intro (LsAt_at elP rfl) ?_))))
        | ((conv => whnf)
           refine Exists.intro (a2 :: t2) (Exists.intro (a2 :: t2) (And.intro (LsAt_at elP rfl) (And.intro (LsAt_at elP rfl) ?_))))
        | ((conv => whnf)
           refine Exists.intro (a3 :: t3) (Exists.intro (a3 :: t3) (And.intro (LsAt_at elP rfl) (And.intro (LsAt_at elP rfl) ?_))))
      all_goals (conv => whnf)
      all_goals first
        | (exfalso; simp [cA_eq, cA_eqB, hs, hlen'] at g; done)
        | (show Value.bool (samePB _ _) = .bool true; rw [hs]; done)
        | (exfalso; simp only [List.length_cons, decide_eq_false_iff_not] at g hl1 hl2 hl3; omega)
        | trace_state
end Go.Aw
