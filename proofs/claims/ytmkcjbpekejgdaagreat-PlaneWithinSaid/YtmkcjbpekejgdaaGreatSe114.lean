/-
  Ascending lists of segments, each once. No condition.
-/
import Derived.Test.YtmkcjbpekejgdaaGreatSeF
import Derived.Test.YtmkcjbpekejgdaaGreatSeL
set_option linter.unusedSimpArgs false
set_option linter.unusedVariables false
noncomputable section
namespace Go.Aw
def lessG (s t : Sg) : Bool := lessB s.1 t.1 || (eqP s.1 t.1 && lessB s.2 t.2)
def eqG (s t : Sg) : Bool := eqP s.1 t.1 && (eqP s.2 t.2 && true)
theorem eqG_iff (s t : Sg) : eqG s t = true ↔ s = t := by
  unfold eqG
  rw [Bool.and_true, Bool.and_eq_true, eqP_iff, eqP_iff]
  exact ⟨fun h => Prod.ext h.1 h.2, fun h => by rw [h]; exact ⟨rfl, rfl⟩⟩
theorem lessG_iff (s t : Sg) : lessG s t = true ↔ s.1.1 < t.1.1 ∨ (s.1.1 = t.1.1 ∧ (s.1.2 < t.1.2 ∨ (s.1.2 = t.1.2 ∧ (s.2.1 < t.2.1 ∨ (s.2.1 = t.2.1 ∧ s.2.2 < t.2.2))))) := by
  unfold lessG
  rw [Bool.or_eq_true, Bool.and_eq_true, less_lex, less_lex, eqP_iff, Prod.ext_iff]
  omega
theorem sg_ext {s t : Sg} (h1 : s.1.1 = t.1.1) (h2 : s.1.2 = t.1.2) (h3 : s.2.1 = t.2.1) (h4 : s.2.2 = t.2.2) : s = t := Prod.ext (Prod.ext h1 h2) (Prod.ext h3 h4)
theorem lessG_ir (s : Sg) : lessG s s = false := by
  rw [← Bool.not_eq_true, lessG_iff]; omega
theorem lessG_tr {s t u : Sg} (h1 : lessG s t = true) (h2 : lessG t u = true) : lessG s u = true := by
  rw [lessG_iff] at *; omega
theorem lessG_tot {s t : Sg} (h1 : lessG s t = false) (h2 : lessG t s = false) : s = t := by
  rw [← Bool.not_eq_true, lessG_iff] at h1 h2
  exact sg_ext (by omega) (by omega) (by omega) (by omega)
theorem lessG_nt {s t u : Sg} (h1 : lessG s t = false) (h2 : lessG s u = true) : lessG t u = true := by
  rw [← Bool.not_eq_true, lessG_iff] at h1
  rw [lessG_iff] at *; omega
def Asc (L : List Sg) : Prop := L.Pairwise (fun a b => lessG a b = true)
def posG (s : Sg) : List Sg → Nat
  | [] => 0
  | x :: r => if lessG x s = true then posG s r + 1 else 0
def insG (L : List Sg) (s : Sg) : List Sg := if posG s L < L.length ∧ eqG (atS L (posG s L)) s = true then L else L.take (posG s L) ++ s :: L.drop (posG s L)
theorem posG_le (s : Sg) : ∀ L, posG s L ≤ L.length
  | [] => Nat.le_refl _
  | x :: r => by
    unfold posG
    have := posG_le s r
    split <;> simp only [List.length_cons] <;> omega
theorem posG_lt (s : Sg) : ∀ (L : List Sg) (i : Nat), i < posG s L → lessG (atS L i) s = true
  | [], i, h => absurd h (Nat.not_lt_zero _)
  | x :: r, 0, h => by
    unfold posG at h
    split at h
    · assumption
    · exact absurd h (Nat.not_lt_zero _)
  | x :: r, i + 1, h => by
    unfold posG at h
    split at h
    · exact posG_lt s r i (by omega)
    · exact absurd h (Nat.not_lt_zero _)
theorem posG_at (s : Sg) : ∀ (L : List Sg), posG s L < L.length → lessG (atS L (posG s L)) s = false
  | [], h => absurd h (Nat.not_lt_zero _)
  | x :: r, h => by
    unfold posG at h ⊢
    split at h
    · rename_i hx
      rw [if_pos hx]
      exact posG_at s r (by simp only [List.length_cons] at h; omega)
    · rename_i hx
      rw [if_neg hx]
      show lessG x s = false
      simpa using hx
theorem posG_is {s : Sg} {L : List Sg} {i : Nat} (hi : i ≤ L.length) (h1 : ∀ k, k < i → lessG (atS L k) s = true) (h2 : i < L.length → lessG (atS L i) s = false) : posG s L = i := by
  have a := posG_le s L
  rcases Nat.lt_trichotomy (posG s L) i with h | h | h
  · have := posG_at s L (by omega)
    rw [h1 _ h] at this
    cases this
  · exact h
  · have := posG_lt s L i h
    rw [h2 (by omega)] at this
    cases this
theorem insG_nil (s : Sg) : insG [] s = [s] := rfl
theorem insG_cons (x s : Sg) (r : List Sg) : insG (x :: r) s = if lessG x s = true then x :: insG r s else if eqG x s = true then x :: r else s :: x :: r := by
  unfold insG
  by_cases h : lessG x s = true
  · have e : posG s (x :: r) = posG s r + 1 := by
      show (if _ then _ else _) = _
      rw [if_pos h]
    rw [e, if_pos h, show atS (x :: r) (posG s r + 1) = atS r (posG s r) from rfl]
    by_cases h2 : posG s r < r.length ∧ eqG (atS r (posG s r)) s = true
    · rw [if_pos h2, if_pos ⟨by simp only [List.length_cons]; omega, h2.2⟩]
    · rw [if_neg h2, if_neg (fun h3 => h2 ⟨by have := h3.1; simp only [List.length_cons] at this; omega, h3.2⟩)]
      rfl
  · have e : posG s (x :: r) = 0 := by
      show (if _ then _ else _) = _
      rw [if_neg h]
    rw [e, if_neg h, show atS (x :: r) 0 = x from rfl]
    by_cases h2 : eqG x s = true
    · rw [if_pos ⟨by simp, h2⟩, if_pos h2]
    · rw [if_neg (fun h3 => h2 h3.2), if_neg h2]
      rfl
theorem insG_mem {s x : Sg} : ∀ {L : List Sg}, x ∈ insG L s ↔ x ∈ L ∨ x = s
  | [] => by rw [insG_nil]; simp
  | y :: r => by
    rw [insG_cons]
    split
    · rw [List.mem_cons, List.mem_cons, insG_mem, or_assoc]
    · split
      · rename_i h
        rw [eqG_iff] at h
        subst h
        simp only [List.mem_cons]
        constructor
        · exact .inl
        · rintro (h | h)
          · exact h
          · exact .inl h
      · simp only [List.mem_cons]
        constructor
        · rintro (h | h | h)
          · exact .inr h
          · exact .inl (.inl h)
          · exact .inl (.inr h)
        · rintro ((h | h) | h)
          · exact .inr (.inl h)
          · exact .inr (.inr h)
          · exact .inl h
theorem insG_asc {s : Sg} : ∀ {L : List Sg}, Asc L → Asc (insG L s)
  | [], _ => List.pairwise_singleton ..
  | y :: r, h => by
    obtain ⟨h1, h2⟩ := List.pairwise_cons.1 h
    rw [insG_cons]
    split
    · rename_i hy
      refine List.pairwise_cons.2 ⟨fun x hx => ?_, insG_asc h2⟩
      rcases insG_mem.1 hx with hx | hx
      · exact h1 x hx
      · rw [hx]; exact hy
    · split
      · exact h
      · rename_i hy he
        have hs : lessG s y = true := by
          cases h3 : lessG s y with
          | true => rfl
          | false => exact absurd ((eqG_iff _ _).2 (lessG_tot (by simpa using hy) h3)) he
        refine List.pairwise_cons.2 ⟨fun x hx => ?_, h⟩
        rcases List.mem_cons.1 hx with hx | hx
        · rw [hx]; exact hs
        · exact lessG_tr hs (h1 x hx)
theorem asc_uniq : ∀ {L M : List Sg}, Asc L → Asc M → (∀ x, x ∈ L ↔ x ∈ M) → L = M
  | [], [], _, _, _ => rfl
  | [], y :: m, _, _, h => absurd ((h y).2 (List.mem_cons_self ..)) List.not_mem_nil
  | x :: l, [], _, _, h => absurd ((h x).1 (List.mem_cons_self ..)) List.not_mem_nil
  | x :: l, y :: m, hl, hm, h => by
    obtain ⟨a1, a2⟩ := List.pairwise_cons.1 hl
    obtain ⟨b1, b2⟩ := List.pairwise_cons.1 hm
    have e : x = y := by
      rcases List.mem_cons.1 ((h x).1 (List.mem_cons_self ..)) with e | hx
      · exact e
      · rcases List.mem_cons.1 ((h y).2 (List.mem_cons_self ..)) with e | hy
        · exact e.symm
        · have := lessG_tr (a1 y hy) (b1 x hx)
          rw [lessG_ir] at this
          cases this
    subst e
    have nx : x ∉ l := fun hx => by have := a1 x hx; rw [lessG_ir] at this; cases this
    have ny : x ∉ m := fun hx => by have := b1 x hx; rw [lessG_ir] at this; cases this
    rw [asc_uniq a2 b2 fun z => ⟨fun hz => ?_, fun hz => ?_⟩]
    · rcases List.mem_cons.1 ((h z).1 (List.mem_cons_of_mem _ hz)) with e | h'
      · rw [e] at hz; exact absurd hz nx
      · exact h'
    · rcases List.mem_cons.1 ((h z).2 (List.mem_cons_of_mem _ hz)) with e | h'
      · rw [e] at hz; exact absurd hz ny
      · exact h'
theorem fold_asc : ∀ (X L : List Sg), Asc L → Asc (X.foldl insG L)
  | [], _, h => h
  | s :: X, L, h => fold_asc X (insG L s) (insG_asc h)
theorem fold_mem {x : Sg} : ∀ (X L : List Sg), x ∈ X.foldl insG L ↔ x ∈ L ∨ x ∈ X
  | [], L => by simp
  | s :: X, L => by
    rw [List.foldl_cons, fold_mem X (insG L s), insG_mem, List.mem_cons, or_assoc]
end Go.Aw
