/-
  Sorted segments, each once: the ascending list. No condition.
-/
import Derived.Test.YtmkcjbpekejgdaaGreatSe118
import Derived.Test.YtmkcjbpekejgdaaGreatSe115
set_option linter.unusedSimpArgs false
set_option linter.unusedVariables false
noncomputable section
namespace Go.Aw
theorem dedG_less {S : List Sg} (hs : ∀ i j, i < j → j < S.length → lessG (atS S j) (atS S i) = false) : ∀ p, p ≤ S.length → 
    (∀ x ∈ ddG S p, ∃ i, i < p ∧ x = atS S i) ∧ (∀ i, i < p → atS S i ∈ ddG S p) ∧ (0 < p → (ddG S p).getLast? = some (atS S (p - 1))) ∧ Asc (ddG S p)
  | 0, _ => ⟨fun x hx => absurd hx List.not_mem_nil, fun i hi => absurd hi (Nat.not_lt_zero _), fun h => absurd h (Nat.lt_irrefl _), List.Pairwise.nil⟩
  | p + 1, hp => by
    obtain ⟨h1, h2, h3, h4⟩ := dedG_less hs p (by omega)
    by_cases h0 : p = 0
    · subst h0
      have e : ddG S (0 + 1) = [atS S 0] := rfl
      rw [e]
      exact ⟨fun x hx => ⟨0, by omega, List.mem_singleton.1 hx⟩, fun i hi => by rw [show i = 0 by omega]; exact List.mem_singleton.2 rfl, fun _ => rfl, List.pairwise_singleton ..⟩
    · cases he : eqG (atS S p) (atS S (p - 1)) with
      | false =>
        rw [ddG_yes he]
        refine ⟨fun x hx => ?_, fun i hi => ?_, fun _ => by simp, ?_⟩
        · rcases List.mem_append.1 hx with hx | hx
          · obtain ⟨i, hi, e⟩ := h1 x hx
            exact ⟨i, by omega, e⟩
          · exact ⟨p, by omega, List.mem_singleton.1 hx⟩
        · by_cases e : i = p
          · rw [e]; simp
          · exact List.mem_append.2 (.inl (h2 i (by omega)))
        · unfold Asc
          rw [List.pairwise_append]
          refine ⟨h4, List.pairwise_singleton .., fun a ha b hb => ?_⟩
          rw [List.mem_singleton.1 hb]
          obtain ⟨i, hi, rfl⟩ := h1 a ha
          have g1 := hs (p - 1) p (by omega) (by omega)
          have gs : lessG (atS S (p - 1)) (atS S p) = true := by
            cases h : lessG (atS S (p - 1)) (atS S p) with
            | true => rfl
            | false => rw [(eqG_iff _ _).2 (lessG_tot g1 h)] at he; cases he
          by_cases e : i = p - 1
          · rw [e]; exact gs
          · exact lessG_nt (hs i (p - 1) (by omega) (by omega)) gs
      | true =>
        have e2 : atS S p = atS S (p - 1) := (eqG_iff _ _).1 he
        rw [ddG_no (by omega) he]
        refine ⟨fun x hx => ?_, fun i hi => ?_, fun _ => ?_, h4⟩
        · obtain ⟨i, hi, e⟩ := h1 x hx
          exact ⟨i, by omega, e⟩
        · by_cases e : i = p
          · rw [e, e2]; exact h2 (p - 1) (by omega)
          · exact h2 i (by omega)
        · rw [h3 (by omega), Nat.add_sub_cancel, e2]
theorem sortG_less {l : List Sg} : ∀ i j, i < j → j < (sortG l).length → lessG (atS (sortG l) j) (atS (sortG l) i) = false := by
  intro i j hij hj
  rw [sortG_len] at hj
  have := sortG_sorted l hij hj
  rw [lt_ordG] at this
  exact this
def dedG (l : List Sg) : List Sg := ddG (sortG l) (sortG l).length
theorem dedG_mem {l : List Sg} {x : Sg} : x ∈ dedG l ↔ x ∈ l := by
  obtain ⟨h1, h2, -, -⟩ := dedG_less (S := sortG l) sortG_less (sortG l).length (Nat.le_refl _)
  constructor
  · intro h
    obtain ⟨i, hi, rfl⟩ := h1 x h
    rw [atS_eq hi]
    exact (sortG_perm l).mem_iff.1 (List.getElem_mem _)
  · intro h
    obtain ⟨i, hi, e⟩ := List.mem_iff_getElem.1 ((sortG_perm l).mem_iff.2 h)
    have := h2 i hi
    rw [atS_eq hi, e] at this
    exact this
theorem dedG_asc (l : List Sg) : Asc (dedG l) := (dedG_less (S := sortG l) sortG_less (sortG l).length (Nat.le_refl _)).2.2.2
/-- What the program puts out is what the reference gathers. -/
theorem dedG_eq (X : List Sg) : dedG X = X.foldl insG [] :=
  asc_uniq (dedG_asc X) (fold_asc X [] List.Pairwise.nil) fun x => by
    rw [dedG_mem, fold_mem]
    constructor
    · exact .inr
    · rintro (h | h)
      · cases h
      · exact h
end Go.Aw
