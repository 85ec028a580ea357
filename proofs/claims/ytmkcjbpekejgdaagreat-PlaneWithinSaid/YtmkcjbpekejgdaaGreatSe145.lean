/-
  Within: the middle of two stops is a point of the polygon for both. Plain. No condition.
-/
import Derived.Test.YtmkcjbpekejgdaaGreatSe144
set_option linter.unusedSimpArgs false
set_option linter.unusedVariables false
namespace Go.Aw
/-- A point on an edge that is not along the segment, strictly within both: they cross. -/
theorem strict_cross {a b c d m : Int × Int} (hab : lessB a b = true) (hcd : lessB c d = true) (h1 : lessB a m = true) (h2 : lessB m b = true) (h3 : lessB c m = true) (h4 : lessB m d = true) (hs : crossI a b m = 0) (he : crossI c d m = 0) (hn : ¬ (crossI a b c = 0 ∧ crossI a b d = 0)) : meetS (a, b) (c, d) = 3 := by
  have w1 := lex_sub.1 h3
  have w2 := lex_sub.1 h4
  have z1 := lex_sub.1 h1
  have z2 := lex_sub.1 h2
  have k1 := par_sign (vx := b.1 - a.1) (vy := b.2 - a.2) w1 w2 (by unfold crossI at he; grind)
  have k2 := par_sign (vx := d.1 - c.1) (vy := d.2 - c.2) z1 z2 (by unfold crossI at hs; grind)
  have e1 : crossI a b c = (m.1 - c.1) * (b.2 - a.2) - (m.2 - c.2) * (b.1 - a.1) := by unfold crossI at hs ⊢; grind
  have e2 : crossI a b d = -((d.1 - m.1) * (b.2 - a.2) - (d.2 - m.2) * (b.1 - a.1)) := by unfold crossI at hs ⊢; grind
  have e3 : crossI c d a = (m.1 - a.1) * (d.2 - c.2) - (m.2 - a.2) * (d.1 - c.1) := by unfold crossI at he ⊢; grind
  have e4 : crossI c d b = -((b.1 - m.1) * (d.2 - c.2) - (b.2 - m.2) * (d.1 - c.1)) := by unfold crossI at he ⊢; grind
  rw [← e1] at k1
  rw [← e3] at k2
  have hn2 : ¬ (crossI c d a = 0 ∧ crossI c d b = 0) := fun ⟨x, y⟩ => hn ⟨line3 hcd x y (by unfold crossI; grind), line3 hcd x y (by unfold crossI; grind)⟩
  refine cross3 (prod_neg.2 ?_) (prod_neg.2 ?_)
  · show (crossI a b c < 0 ∧ 0 < crossI a b d) ∨ (0 < crossI a b c ∧ crossI a b d < 0)
    omega
  · show (crossI c d a < 0 ∧ 0 < crossI c d b) ∨ (0 < crossI c d a ∧ crossI c d b < 0)
    omega
theorem cross_dblr {a b c d : Int × Int} : meetS (dbP a, dbP b) (dbP c, dbP d) = 3 → turnS a b c * turnS a b d < 0 ∧ turnS c d a * turnS c d b < 0 := by
  have key : ∀ x y z : Int × Int, turnS (dbP x) (dbP y) (dbP z) = turnS x y z := by
    intro x y z
    unfold turnS
    rw [cross_dbl2]
    unfold sgn
    split <;> split <;> (try split) <;> (try split) <;> omega
  intro h
  have l3 : ∀ {x : Int}, x = turnS a b c ∨ x = turnS a b d ∨ x = turnS c d a ∨ x = turnS c d b → x = 1 ∨ x = 0 ∨ x = -1 := by
    intro x hx
    have t : ∀ p q r : Int × Int, turnS p q r = 1 ∨ turnS p q r = 0 ∨ turnS p q r = -1 := fun p q r => by have := turn_low p q r; omega
    rcases hx with e | e | e | e <;> rw [e] <;> exact t _ _ _
  unfold meetS at h
  simp only [key] at h
  split at h
  · rename_i hz
    exfalso
    unfold tblS at h
    split at h
    · omega
    · split at h <;> omega
  · unfold kindS at h
    have a1 := l3 (.inl rfl)
    have a2 := l3 (.inr (.inl rfl))
    have a3 := l3 (.inr (.inr (.inl rfl)))
    have a4 := l3 (.inr (.inr (.inr rfl)))
    generalize turnS a b c = t1 at *
    generalize turnS a b d = t2 at *
    generalize turnS c d a = t3 at *
    generalize turnS c d b = t4 at *
    rcases a1 with rfl | rfl | rfl <;> rcases a2 with rfl | rfl | rfl <;> rcases a3 with rfl | rfl | rfl <;> rcases a4 with rfl | rfl | rfl <;> revert h <;> decide
theorem midI_iff {l : List (Int × Int)} {s : Sg} {n d : Int} : ∀ {k}, midI l s n d k = true ↔ ∃ i, i < k ∧ algB l s n d i = true
  | 0 => ⟨fun h => (by cases h), fun ⟨i, h, _⟩ => absurd h (Nat.not_lt_zero i)⟩
  | k + 1 => by
    unfold midI
    rw [Bool.or_eq_true, midI_iff (k := k)]
    constructor
    · rintro (⟨i, hi, h⟩ | h)
      · exact ⟨i, by omega, h⟩
      · exact ⟨k, by omega, h⟩
    · rintro ⟨i, hi, h⟩
      by_cases e : i = k
      · subst e; exact .inr h
      · exact .inl ⟨i, by omega, h⟩
theorem btw_sc {g m x y : Int} (hg : 0 < g) : btw (g * m) (x * (2 * g)) (y * (2 * g)) = true ↔ btw m (2 * x) (2 * y) = true := by
  rw [btw_iff, btw_iff]
  have k1 := mulpos_iff hg (b := 2 * x - m)
  have k2 := mulpos_iff hg (b := 2 * y - m)
  have e1 : g * (2 * x - m) = x * (2 * g) - g * m := by grind
  have e2 : g * (2 * y - m) = y * (2 * g) - g * m := by grind
  rw [e1] at k1
  rw [e2] at k2
  omega
section
variable {l : List (Int × Int)} {s : Sg} {a b p q x y : Int × Int} (hgood : goodP l) (hs : rightG s = true) (hno : noX l s) (he : endsS s = (a, b)) (hab : lessB a b = true) (hsab : s = (a, b) ∨ s = (b, a))
  (lp : crossI a b p = 0) (lq : crossI a b q = 0) (ha : ¬ lessB p a = true) (hb : ¬ lessB b q = true) (hpq : lessB p q = true)
  (hbt : ∀ i, i < l.length → insS (at2 l i) s = true → ¬ (lessB p (at2 l i) = true ∧ lessB (at2 l i) q = true))
include hgood hs hno he hab hsab lp lq ha hb hpq hbt
theorem on_dbl {i : Nat} (hi : i < l.length) : onS (addP p q) (dbP (edgeS l i).1, dbP (edgeS l i).2) = true ↔ (turnS s.1 s.2 (edgeS l i).1 = 0 ∧ turnS s.1 s.2 (edgeS l i).2 = 0 ∧ btw (addP p q).1 (2 * (edgeS l i).1.1) (2 * (edgeS l i).2.1) = true ∧ btw (addP p q).2 (2 * (edgeS l i).1.2) (2 * (edgeS l i).2.2) = true) := by
  have re := edge_right hgood hi
  have hx := hno i hi
  obtain ⟨rc, rd, hcd⟩ := right_two re
  have hz : ∀ z, turnS s.1 s.2 z = 0 ↔ crossI a b z = 0 := by
    intro z
    rw [turn_sg.2.2]
    rcases hsab with h | h <;> rw [h]
    show crossI b a z = 0 ↔ _
    rw [crossI_sw a b z]; omega
  have hm1 : lessB (dbP a) (addP p q) = true := by
    rw [less_lex] at hpq ha ⊢
    unfold dbP addP
    show 2 * a.1 < p.1 + q.1 ∨ (2 * a.1 = p.1 + q.1 ∧ 2 * a.2 < p.2 + q.2)
    omega
  have hm2 : lessB (addP p q) (dbP b) = true := by
    rw [less_lex] at hpq hb ⊢
    unfold dbP addP
    show p.1 + q.1 < 2 * b.1 ∨ (p.1 + q.1 = 2 * b.1 ∧ p.2 + q.2 < 2 * b.2)
    omega
  have hlm : crossI (dbP a) (dbP b) (addP p q) = 0 := by
    rw [cross_dbl]
    unfold crossI at lp lq
    unfold addP
    show 2 * ((b.1 - a.1) * (p.2 + q.2 - 2 * a.2) - (b.2 - a.2) * (p.1 + q.1 - 2 * a.1)) = 0
    grind
  have hc1 : ∃ k, k < l.length ∧ (edgeS l i).1 = at2 l k := ⟨i, hi, rfl⟩
  have hc2 : ∃ k, k < l.length ∧ (edgeS l i).2 = at2 l k := ⟨(i + 1) % l.length, Nat.mod_lt _ (by omega), rfl⟩
  -- the middle is no corner
  have hnc : ∀ z, (∃ k, k < l.length ∧ z = at2 l k) → addP p q ≠ dbP z := by
    rintro z ⟨k, hk, rfl⟩ e
    rw [e] at hm1 hm2 hlm
    have z1 := dbl_less.1 hm1
    have z2 := dbl_less.1 hm2
    rw [cross_dbl2] at hlm
    have hin : insS (at2 l k) s = true := (ins_iff he hab hsab).2 ⟨by omega, z1, z2⟩
    refine hbt k hk hin ?_
    unfold addP dbP at e
    injection e with e1 e2
    rw [less_lex] at hpq
    rw [less_lex, less_lex]
    omega
  have hmeet : meetR s (edgeS l i) = meetS s (edgeS l i) := (meet_eq _ _ hs re).symm
  rw [hmeet] at hx
  -- the edge in order
  have main : ∀ c d, ((edgeS l i) = (c, d) ∨ (edgeS l i) = (d, c)) → lessB c d = true → ((crossI (dbP c) (dbP d) (addP p q) = 0 ∧ ¬ lessB (addP p q) (dbP c) = true ∧ ¬ lessB (dbP d) (addP p q) = true) ↔ (crossI a b c = 0 ∧ crossI a b d = 0 ∧ btw (addP p q).1 (2 * c.1) (2 * d.1) = true ∧ btw (addP p q).2 (2 * c.2) (2 * d.2) = true)) := by
    intro c d hE hlt
    have hlt2 := dbl_less.2 hlt
    constructor
    · rintro ⟨h1, h2, h3⟩
      have hcc : ∃ k, k < l.length ∧ c = at2 l k := by
        rcases hE with e | e <;> rw [e] at hc1 hc2
        · exact hc1
        · exact hc2
      have hdd : ∃ k, k < l.length ∧ d = at2 l k := by
        rcases hE with e | e <;> rw [e] at hc1 hc2
        · exact hc2
        · exact hc1
      by_cases hz2 : crossI a b c = 0 ∧ crossI a b d = 0
      · exact ⟨hz2.1, hz2.2, (lex_btw hlt2 h1).1 ⟨h2, h3⟩⟩
      · exfalso
        have n1 : lessB (dbP c) (addP p q) = true := by
          cases hh : lessB (dbP c) (addP p q) with
          | true => rfl
          | false => exact absurd (less_tot (by simpa using h2) hh) (hnc c hcc)
        have n2 : lessB (addP p q) (dbP d) = true := by
          cases hh : lessB (addP p q) (dbP d) with
          | true => rfl
          | false => exact absurd (less_tot hh (by simpa using h3)) (hnc d hdd)
        have h3 := strict_cross (dbl_less.2 hab) hlt2 hm1 hm2 n1 n2 hlm h1 (by rw [cross_dbl2, cross_dbl2]; omega)
        obtain ⟨q1, q2⟩ := cross_dblr h3
        have h4 : meetS (a, b) (c, d) = 3 := cross3 q1 q2
        have rab : rightG (a, b) = true := by
          obtain ⟨r1, r2, -⟩ := right_two hs
          rcases hsab with e | e
          · rw [← e]; exact hs
          · rw [e] at r1 r2; exact right_pair r2 r1 hab
        have rcd : rightG (c, d) = true := by
          rcases hE with e | e
          · rw [← e]; exact re
          · rw [e] at rc rd; exact right_pair rd rc hlt
        apply hx
        have e2 : meetS s (edgeS l i) = meetS s (c, d) := by
          rcases hE with e | e
          · rw [e]
          · rw [e]; exact meet_back s (c, d) rcd
        rw [e2, ← h4, meet_sym (c, d) s rcd hs, meet_sym (c, d) (a, b) rcd rab]
        rcases hsab with e | e
        · rw [e]
        · rw [e]; exact meet_back (c, d) (a, b) rab
    · rintro ⟨h1, h2, h3, h4⟩
      have hl : crossI (dbP c) (dbP d) (addP p q) = 0 := line3 (dbl_less.2 hab) (by rw [cross_dbl2]; omega) (by rw [cross_dbl2]; omega) hlm
      exact ⟨hl, (lex_btw hlt2 hl).2 ⟨h3, h4⟩⟩
  have hne : dbP (edgeS l i).1 ≠ dbP (edgeS l i).2 := fun e => hcd (dbl_inj e)
  have hbs : ∀ u v w : Int, btw u v w = true ↔ btw u w v = true := by intro u v w; rw [btw_iff, btw_iff]; omega
  rw [onS_lex hne, hz, hz]
  show (crossI (dbP (edgeS l i).1) (dbP (edgeS l i).2) (addP p q) = 0 ∧ ((¬ lessB (addP p q) (dbP (edgeS l i).1) = true ∧ ¬ lessB (dbP (edgeS l i).2) (addP p q) = true ∧ lessB (dbP (edgeS l i).1) (dbP (edgeS l i).2) = true) ∨ (¬ lessB (addP p q) (dbP (edgeS l i).2) = true ∧ ¬ lessB (dbP (edgeS l i).1) (addP p q) = true ∧ lessB (dbP (edgeS l i).2) (dbP (edgeS l i).1) = true))) ↔ _
  rw [dbl_less, dbl_less]
  cases hlt : lessB (edgeS l i).1 (edgeS l i).2 with
  | true =>
    have hgt : ¬ lessB (edgeS l i).2 (edgeS l i).1 = true := fun h => less_irr (less_tr hlt h)
    rw [← main (edgeS l i).1 (edgeS l i).2 (.inl rfl) hlt]
    constructor
    · rintro ⟨h1, ⟨h2, h3, -⟩ | ⟨-, -, h⟩⟩
      · exact ⟨h1, h2, h3⟩
      · exact absurd h hgt
    · rintro ⟨h1, h2, h3⟩
      exact ⟨h1, .inl ⟨h2, h3, rfl⟩⟩
  | false =>
    have hgt : lessB (edgeS l i).2 (edgeS l i).1 = true := by
      cases h2 : lessB (edgeS l i).2 (edgeS l i).1 with
      | true => rfl
      | false => exact absurd (less_tot hlt h2) hcd
    have hm := main (edgeS l i).2 (edgeS l i).1 (.inr rfl) hgt
    rw [hbs, hbs _ _ (2 * (edgeS l i).1.2), crossI_sw] at hm
    constructor
    · rintro ⟨h1, ⟨-, -, h⟩ | ⟨h2, h3, -⟩⟩
      · cases h
      · obtain ⟨r1, r2, r3, r4⟩ := hm.1 ⟨by omega, h2, h3⟩
        exact ⟨r2, r1, r3, r4⟩
    · rintro ⟨h1, h2, h3, h4⟩
      obtain ⟨r1, r2, r3⟩ := hm.2 ⟨h2, h1, h3, h4⟩
      exact ⟨by omega, .inr ⟨r2, r3, hgt⟩⟩
/-- Both take the middle for a point of the polygon, or neither does. -/
theorem mid_iff (hx : repF s x p) (hy : repF s y q) : midV l s (x.1 * y.2 + y.1 * x.2) (2 * x.2 * y.2) = true ↔ whI (dblL l) (addP p q) ≠ 0 := by
  have hg := Int.mul_pos hx.1 hy.1
  have eX : mX s (x.1 * y.2 + y.1 * x.2) (2 * x.2 * y.2) = (x.2 * y.2) * (addP p q).1 := by
    obtain ⟨-, a1, a2⟩ := hx
    obtain ⟨-, b1, b2⟩ := hy
    unfold mX addP
    show s.1.1 * (2 * x.2 * y.2) + (s.2.1 - s.1.1) * (x.1 * y.2 + y.1 * x.2) = (x.2 * y.2) * (p.1 + q.1)
    grind
  have eY : mY s (x.1 * y.2 + y.1 * x.2) (2 * x.2 * y.2) = (x.2 * y.2) * (addP p q).2 := by
    obtain ⟨-, a1, a2⟩ := hx
    obtain ⟨-, b1, b2⟩ := hy
    unfold mY addP
    show s.1.2 * (2 * x.2 * y.2) + (s.2.2 - s.1.2) * (x.1 * y.2 + y.1 * x.2) = (x.2 * y.2) * (p.2 + q.2)
    grind
  have ed : 2 * x.2 * y.2 = 2 * (x.2 * y.2) := Int.mul_assoc _ _ _
  have hon : midI l s (x.1 * y.2 + y.1 * x.2) (2 * x.2 * y.2) l.length = true ↔ onP (dblL l) (addP p q) := by
    rw [midI_iff]
    unfold onP
    rw [dbl_len]
    refine exists_congr fun i => and_congr_right fun hi => ?_
    rw [edge_dbl hi, on_dbl hgood hs hno he hab hsab lp lq ha hb hpq hbt hi]
    unfold algB
    rw [eX, eY, ed, Bool.and_eq_true, Bool.and_eq_true, Bool.and_eq_true, decide_eq_true_eq, decide_eq_true_eq, btw_sc hg, btw_sc hg, and_assoc]
  unfold midV
  rw [Bool.or_eq_true, hon, eX, eY, ed, inF_sc hg l.length (Nat.le_refl _)]
  unfold whI
  rw [dbl_len]
  by_cases h : onP (dblL l) (addP p q)
  · rw [if_pos h]
    exact ⟨fun _ => by decide, fun _ => .inl h⟩
  · rw [if_neg h]
    constructor
    · rintro (h2 | h2)
      · exact absurd h2 h
      · rw [if_pos h2]; decide
    · intro h2
      right
      cases h3 : inI (dblL l) (addP p q) l.length with
      | true => rfl
      | false => rw [h3] at h2; exact absurd rfl h2
end
end Go.Aw
