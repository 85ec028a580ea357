/-
  Within: the middle of two stops. Plain. No condition.
-/
import Derived.Test.YtmkcjbpekejgdaaGreatSe143
set_option linter.unusedSimpArgs false
set_option linter.unusedVariables false
namespace Go.Aw
theorem edge_dbl {l : List (Int × Int)} {i : Nat} (hi : i < l.length) : edgeS (dblL l) i = (dbP (edgeS l i).1, dbP (edgeS l i).2) := by
  have hm : (i + 1) % l.length < l.length := Nat.mod_lt _ (by omega)
  have hl : (dblL l).length = l.length := by unfold dblL; rw [List.length_map]
  unfold edgeS
  rw [hl, at2_eq (show i < (dblL l).length by omega), at2_eq (show (i + 1) % l.length < (dblL l).length by omega), at2_eq hi, at2_eq hm]
  unfold dblL
  rw [List.getElem_map, List.getElem_map]
theorem cross_dbl (a b m : Int × Int) : crossI (dbP a) (dbP b) m = 2 * ((b.1 - a.1) * (m.2 - 2 * a.2) - (b.2 - a.2) * (m.1 - 2 * a.1)) := by
  unfold crossI dbP
  show (2 * b.1 - 2 * a.1) * (m.2 - 2 * a.2) - (2 * b.2 - 2 * a.2) * (m.1 - 2 * a.1) = _
  grind
theorem cross_dbl2 (a b c : Int × Int) : crossI (dbP a) (dbP b) (dbP c) = 4 * crossI a b c := by
  rw [cross_dbl]
  unfold crossI dbP
  show 2 * ((b.1 - a.1) * (2 * c.2 - 2 * a.2) - (b.2 - a.2) * (2 * c.1 - 2 * a.1)) = _
  grind
theorem dbl_less {a b : Int × Int} : lessB (dbP a) (dbP b) = true ↔ lessB a b = true := by
  rw [less_lex, less_lex]
  unfold dbP
  show (2 * a.1 < 2 * b.1 ∨ (2 * a.1 = 2 * b.1 ∧ 2 * a.2 < 2 * b.2)) ↔ _
  omega
theorem dbl_inj {a b : Int × Int} (h : dbP a = dbP b) : a = b := by
  unfold dbP at h
  injection h with h1 h2
  exact Prod.ext (by omega) (by omega)
/-- Scaled, a hit is a hit. -/
theorem hitT_sc {a b m : Int × Int} {g : Int} (hg : 0 < g) : hitT a b (g * m.1) (g * m.2) (2 * g) = (decide ((dbP a).2 ≤ m.2) && decide (m.2 < (dbP b).2) && decide (0 < crossI (dbP a) (dbP b) m)) := by
  have e1 : (a.2 * (2 * g) ≤ g * m.2) ↔ ((dbP a).2 ≤ m.2) := by
    show _ ↔ 2 * a.2 ≤ m.2
    have := mulpos_iff hg (b := 2 * a.2 - m.2)
    have e : g * (2 * a.2 - m.2) = a.2 * (2 * g) - g * m.2 := by grind
    rw [e] at this
    omega
  have e2 : (g * m.2 < b.2 * (2 * g)) ↔ (m.2 < (dbP b).2) := by
    show _ ↔ m.2 < 2 * b.2
    have := mulpos_iff hg (b := 2 * b.2 - m.2)
    have e : g * (2 * b.2 - m.2) = b.2 * (2 * g) - g * m.2 := by grind
    rw [e] at this
    omega
  have e3 : (g * m.1 * (b.2 - a.2) < a.1 * (2 * g) * (b.2 - a.2) + (b.1 - a.1) * (g * m.2 - a.2 * (2 * g))) ↔ (0 < crossI (dbP a) (dbP b) m) := by
    rw [cross_dbl]
    have := mulpos_iff hg (b := (b.1 - a.1) * (m.2 - 2 * a.2) - (b.2 - a.2) * (m.1 - 2 * a.1))
    have e : g * ((b.1 - a.1) * (m.2 - 2 * a.2) - (b.2 - a.2) * (m.1 - 2 * a.1)) = a.1 * (2 * g) * (b.2 - a.2) + (b.1 - a.1) * (g * m.2 - a.2 * (2 * g)) - g * m.1 * (b.2 - a.2) := by grind
    rw [e] at this
    omega
  unfold hitT
  rw [decide_eq_decide.2 e1, decide_eq_decide.2 e2, decide_eq_decide.2 e3]
theorem hitF_sc {e : Sg} {m : Int × Int} {g : Int} (hg : 0 < g) : hitF e (g * m.1) (g * m.2) (2 * g) = hitE (dbP e.1, dbP e.2) m := by
  by_cases h : e.2.2 < e.1.2
  · have h2 : (dbP e.2).2 < (dbP e.1).2 := by show 2 * e.2.2 < 2 * e.1.2; omega
    rw [hitF_hi h, hitT_sc hg]
    unfold hitE loY hiY
    rw [if_pos h2, if_pos h2]
  · have h2 : ¬ (dbP e.2).2 < (dbP e.1).2 := by show ¬ 2 * e.2.2 < 2 * e.1.2; omega
    rw [hitF_lo h, hitT_sc hg]
    unfold hitE loY hiY
    rw [if_neg h2, if_neg h2]
theorem inF_sc {l : List (Int × Int)} {m : Int × Int} {g : Int} (hg : 0 < g) : ∀ i, i ≤ l.length → inF l (g * m.1) (g * m.2) (2 * g) i = inI (dblL l) m i
  | 0, _ => rfl
  | i + 1, hi => by
    unfold inF inI
    rw [inF_sc hg i (by omega), hitF_sc hg, edge_dbl (by omega)]
/-- On a segment, by the line and the order. -/
theorem onS_lex {e : Sg} {m : Int × Int} (hne : e.1 ≠ e.2) : onS m e = true ↔ crossI e.1 e.2 m = 0 ∧ ((¬ lessB m e.1 = true ∧ ¬ lessB e.2 m = true ∧ lessB e.1 e.2 = true) ∨ (¬ lessB m e.2 = true ∧ ¬ lessB e.1 m = true ∧ lessB e.2 e.1 = true)) := by
  have hb : ∀ x y : Int × Int, ordS x y ≤ 0 ↔ ¬ lessB y x = true := by
    intro x y
    rw [ordS_le, less_lex]
    omega
  have hn : lessB e.1 e.2 = true ∨ lessB e.2 e.1 = true := by
    cases h1 : lessB e.1 e.2 with
    | true => exact .inl rfl
    | false =>
      cases h2 : lessB e.2 e.1 with
      | true => exact .inr rfl
      | false => exact absurd (less_tot h1 h2) hne
  unfold onS betS
  rw [Bool.and_eq_true, decide_eq_true_eq, Bool.and_eq_true, decide_eq_true_eq, decide_eq_true_eq, turn_sg.2.2, hb, hb]
  rcases hn with h | h
  · have he : endsS e = (e.1, e.2) := by
      have := ends_less h
      exact this
    have h' : ¬ lessB e.2 e.1 = true := fun h2 => less_irr (less_tr h h2)
    rw [he]
    simp only [h, h']
    constructor
    · rintro ⟨a, b, c⟩; exact ⟨a, .inl ⟨b, c, trivial⟩⟩
    · rintro ⟨a, ⟨b, c, -⟩ | ⟨-, -, h3⟩⟩
      · exact ⟨a, b, c⟩
      · cases h3
  · have h' : ¬ lessB e.1 e.2 = true := fun h2 => less_irr (less_tr h h2)
    have he : endsS e = (e.2, e.1) := by
      unfold endsS
      have h3 : ¬ ordS e.1 e.2 ≤ 0 := by rw [hb]; exact fun h4 => h4 h
      rw [if_pos (by omega)]
    rw [he]
    simp only [h, h']
    constructor
    · rintro ⟨a, b, c⟩; exact ⟨a, .inr ⟨b, c, trivial⟩⟩
    · rintro ⟨a, ⟨-, -, h3⟩ | ⟨b, c, -⟩⟩
      · cases h3
      · exact ⟨a, b, c⟩
/-- On a line, between by the order is between by both numbers. -/
theorem lex_btw {a b m : Int × Int} (hab : lessB a b = true) (hl : crossI a b m = 0) : (¬ lessB m a = true ∧ ¬ lessB b m = true) ↔ (btw m.1 a.1 b.1 = true ∧ btw m.2 a.2 b.2 = true) := by
  rw [btw_iff, btw_iff, less_lex, less_lex]
  rw [less_lex] at hab
  unfold crossI at hl
  have hp : (b.1 - a.1) * (m.2 - a.2) = (b.2 - a.2) * (m.1 - a.1) := by omega
  constructor
  · rintro ⟨h1, h2⟩
    rcases hab with h | ⟨h, h3⟩
    · have hx : a.1 ≤ m.1 ∧ m.1 ≤ b.1 := by omega
      refine ⟨.inl hx, ?_⟩
      have hu : 0 < b.1 - a.1 := by omega
      have k1 := mulpos_iff hu (b := m.2 - a.2)
      have k2 := mulpos_iff hu (b := b.2 - m.2)
      have e2 : (b.1 - a.1) * (b.2 - m.2) = (b.2 - a.2) * (b.1 - m.1) := by grind
      rw [hp] at k1
      rw [e2] at k2
      rcases Int.lt_trichotomy (b.2 - a.2) 0 with h5 | h5 | h5
      · right
        have j1 : ¬ 0 < (b.2 - a.2) * (m.1 - a.1) := by
          have := Int.mul_nonpos_of_nonpos_of_nonneg (show b.2 - a.2 ≤ 0 by omega) (show 0 ≤ m.1 - a.1 by omega)
          omega
        have j2 : ¬ 0 < (b.2 - a.2) * (b.1 - m.1) := by
          have := Int.mul_nonpos_of_nonpos_of_nonneg (show b.2 - a.2 ≤ 0 by omega) (show 0 ≤ b.1 - m.1 by omega)
          omega
        rw [k1.1] at j1
        rw [k2.1] at j2
        omega
      · rw [h5, Int.zero_mul] at k1 k2
        omega
      · left
        have j1 : ¬ (b.2 - a.2) * (m.1 - a.1) < 0 := by
          have := Int.mul_nonneg (show 0 ≤ b.2 - a.2 by omega) (show 0 ≤ m.1 - a.1 by omega)
          omega
        have j2 : ¬ (b.2 - a.2) * (b.1 - m.1) < 0 := by
          have := Int.mul_nonneg (show 0 ≤ b.2 - a.2 by omega) (show 0 ≤ b.1 - m.1 by omega)
          omega
        rw [k1.2] at j1
        rw [k2.2] at j2
        omega
    · have hx : m.1 = a.1 := by
        rw [show b.1 - a.1 = 0 by omega, Int.zero_mul] at hp
        rcases Int.mul_eq_zero.1 hp.symm with e | e <;> omega
      omega
  · rintro ⟨h1, h2⟩
    rcases hab with h | ⟨h, h3⟩
    · have hu : 0 < b.1 - a.1 := by omega
      have k1 := mulpos_iff hu (b := m.2 - a.2)
      have k2 := mulpos_iff hu (b := b.2 - m.2)
      have e2 : (b.1 - a.1) * (b.2 - m.2) = (b.2 - a.2) * (b.1 - m.1) := by grind
      rw [hp] at k1
      rw [e2] at k2
      refine ⟨?_, ?_⟩
      · rintro (h5 | ⟨h5, h6⟩)
        · omega
        · rw [h5, Int.sub_self, Int.mul_zero] at k1
          omega
      · rintro (h5 | ⟨h5, h6⟩)
        · omega
        · rw [h5, Int.sub_self, Int.mul_zero] at k2
          omega
    · omega
end Go.Aw
