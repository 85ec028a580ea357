/-
  Split: the stops of a segment, and the next one. No condition.
-/
import Derived.Test.YtmkcjbpekejgdaaGreatSe112
set_option linter.unusedSimpArgs false
set_option linter.unusedVariables false
noncomputable section
namespace Go.Aw
def stpA (s : Sg) (st : List (Int × Int)) (p : Int × Int) : List (Int × Int) := if insS p s = true then st ++ [p] else st
def stpI (l : List Sg) (s : Sg) : Nat → List (Int × Int)
  | 0 => [(endsS s).1, (endsS s).2]
  | i + 1 => stpA s (stpA s (stpI l s i) (atS l i).1) (atS l i).2
def stD (l : List Sg) (s : Sg) : List (Int × Int) := dedI (stpI l s l.length)
def nxA (c b : Int × Int) (q p : Int × Int) : Int × Int := if insR p (c, b) = true ∧ lessB p q = true then p else q
def nxtI (l : List Sg) (c b : Int × Int) : Nat → Int × Int
  | 0 => b
  | k + 1 => nxA c b (nxA c b (nxtI l c b k) (atS l k).1) (atS l k).2
def pcI (D : List (Int × Int)) : Nat → List Sg
  | 0 => []
  | k + 1 => pcI D k ++ [(at2 D k, at2 D (k + 1))]
def outS (l : List Sg) : Nat → List Sg
  | 0 => []
  | i + 1 => outS l i ++ pcI (stD l (atS l i)) ((stD l (atS l i)).length - 1)
theorem stpA_mem {s : Sg} {st : List (Int × Int)} {p x : Int × Int} : x ∈ stpA s st p ↔ x ∈ st ∨ (x = p ∧ insS x s = true) := by
  unfold stpA
  split
  · rename_i h
    simp only [List.mem_append, List.mem_singleton]
    constructor
    · rintro (h1 | h1)
      · exact .inl h1
      · exact .inr ⟨h1, by rw [h1]; exact h⟩
    · rintro (h1 | ⟨h1, -⟩)
      · exact .inl h1
      · exact .inr h1
  · rename_i h
    constructor
    · exact .inl
    · rintro (h1 | ⟨h1, h2⟩)
      · exact h1
      · rw [h1] at h2; exact absurd h2 h
theorem stp_mem {l : List Sg} {s : Sg} {x : Int × Int} : ∀ k, x ∈ stpI l s k ↔ x = (endsS s).1 ∨ x = (endsS s).2 ∨ ∃ i, i < k ∧ (x = (atS l i).1 ∨ x = (atS l i).2) ∧ insS x s = true
  | 0 => by
    simp only [stpI, List.mem_cons, List.not_mem_nil, or_false]
    constructor
    · rintro (h | h)
      · exact .inl h
      · exact .inr (.inl h)
    · rintro (h | h | ⟨i, hi, -⟩)
      · exact .inl h
      · exact .inr h
      · exact absurd hi (Nat.not_lt_zero _)
  | k + 1 => by
    show x ∈ stpA s (stpA s (stpI l s k) (atS l k).1) (atS l k).2 ↔ _
    rw [stpA_mem, stpA_mem, stp_mem k]
    constructor
    · rintro (((h | h | ⟨i, hi, h⟩) | h) | h)
      · exact .inl h
      · exact .inr (.inl h)
      · exact .inr (.inr ⟨i, by omega, h⟩)
      · exact .inr (.inr ⟨k, by omega, .inl h.1, h.2⟩)
      · exact .inr (.inr ⟨k, by omega, .inr h.1, h.2⟩)
    · rintro (h | h | ⟨i, hi, h1, h2⟩)
      · exact .inl (.inl (.inl h))
      · exact .inl (.inl (.inr (.inl h)))
      · by_cases e : i = k
        · subst e
          rcases h1 with h1 | h1
          · exact .inl (.inr ⟨h1, h2⟩)
          · exact .inr ⟨h1, h2⟩
        · exact .inl (.inl (.inr (.inr ⟨i, by omega, h1, h2⟩)))
theorem less_tr {a b c : Int × Int} (h1 : lessB a b = true) (h2 : lessB b c = true) : lessB a c = true := by
  rw [less_lex] at *; omega
theorem less_irr {a : Int × Int} (h : lessB a a = true) : False := by
  rw [less_lex] at h; omega
theorem less_tot {a b : Int × Int} (h1 : lessB a b = false) (h2 : lessB b a = false) : a = b := by
  rw [← Bool.not_eq_true, less_lex] at h1 h2
  exact Prod.ext (by omega) (by omega)
theorem ends_two {s : Sg} (h : rightG s = true) : ∃ a b, endsS s = (a, b) ∧ lessB a b = true ∧ (s = (a, b) ∨ s = (b, a)) ∧ rightS a = true ∧ rightS b = true := by
  obtain ⟨h1, h2, h3⟩ := right_two h
  unfold endsS
  by_cases hc : 0 < ordS s.1 s.2
  · rw [if_pos hc]
    refine ⟨s.2, s.1, rfl, ?_, .inr rfl, h2, h1⟩
    have := (not_congr (ordS_le s.1 s.2)).1 (by omega)
    rw [less_lex]
    omega
  · rw [if_neg hc]
    refine ⟨s.1, s.2, rfl, ?_, .inl rfl, h1, h2⟩
    have := (ordS_le s.1 s.2).1 (by omega)
    have h4 : ¬ (s.1.1 = s.2.1 ∧ s.1.2 = s.2.2) := fun e => h3 (Prod.ext e.1 e.2)
    rw [less_lex]
    omega
theorem crossI_sw (a b p : Int × Int) : crossI b a p = -crossI a b p := by unfold crossI; grind
theorem ins_iff {s : Sg} {a b p : Int × Int} (he : endsS s = (a, b)) (hl : lessB a b = true) (hs : s = (a, b) ∨ s = (b, a)) : insS p s = true ↔ crossI a b p = 0 ∧ lessB a p = true ∧ lessB p b = true := by
  have hc : crossI s.1 s.2 p = 0 ↔ crossI a b p = 0 := by
    rcases hs with rfl | rfl
    · exact Iff.rfl
    · show crossI b a p = 0 ↔ _
      rw [crossI_sw]; omega
  have hn : (p ≠ s.1 ∧ p ≠ s.2) ↔ (¬ (p.1 = a.1 ∧ p.2 = a.2) ∧ ¬ (p.1 = b.1 ∧ p.2 = b.2)) := by
    rw [← Prod.ext_iff, ← Prod.ext_iff]
    rcases hs with rfl | rfl
    · exact Iff.rfl
    · exact And.comm
  unfold insS onS betS
  rw [he]
  simp only [Bool.and_eq_true, Bool.not_eq_true', decide_eq_true_eq, eqP_f, turn0, ordS_le, hc, less_lex]
  rw [less_lex] at hl
  constructor
  · rintro ⟨h1, h2, h3, h4, h5⟩
    obtain ⟨h6, h7⟩ := hn.1 ⟨h1, h2⟩
    exact ⟨h3, by omega, by omega⟩
  · rintro ⟨h3, h4, h5⟩
    obtain ⟨h6, h7⟩ := hn.2 ⟨by omega, by omega⟩
    exact ⟨h6, h7, h3, by omega, by omega⟩
theorem ends_less {a b : Int × Int} (hl : lessB a b = true) : endsS (a, b) = (a, b) := by
  unfold endsS
  rw [if_neg]
  have := (ordS_le a b).2 (by rw [less_lex] at hl; omega)
  show ¬ 0 < ordS a b
  omega
theorem insR_eq {p : Int × Int} {s : Sg} (h : rightG s = true) : insR p s = insS p s := by
  unfold insR insS
  rw [on_eq p s h]
theorem right_pair {a b : Int × Int} (ha : rightS a = true) (hb : rightS b = true) (hl : lessB a b = true) : rightG (a, b) = true := by
  unfold rightG
  have : eqP a b = false := (eqP_f a b).2 fun e => by rw [e] at hl; exact less_irr hl
  show (rightS a && rightS b && !(eqP a b)) = true
  rw [ha, hb, this]
  rfl
theorem insR_iff {c b p : Int × Int} (hc : rightS c = true) (hb : rightS b = true) (hl : lessB c b = true) : insR p (c, b) = true ↔ crossI c b p = 0 ∧ lessB c p = true ∧ lessB p b = true := by
  rw [insR_eq (right_pair hc hb hl)]
  exact ins_iff (ends_less hl) hl (.inl rfl)
/-- Any three points of a line. -/
theorem line3 {a b c d q : Int × Int} (hab : lessB a b = true) (h1 : crossI a b c = 0) (h2 : crossI a b d = 0) (h3 : crossI a b q = 0) : crossI c d q = 0 := by
  unfold crossI at *
  have hw : ¬ (b.1 - a.1 = 0 ∧ b.2 - a.2 = 0) := by rw [less_lex] at hab; omega
  have := para (ex := d.1 - c.1) (ey := d.2 - c.2) (wx := b.1 - a.1) (wy := b.2 - a.2) (vx := q.1 - c.1) (vy := q.2 - c.2) hw (by grind) (by grind)
  omega
section
variable {l : List Sg} {s : Sg} {a b : Int × Int} (hl : l.all rightG = true) (he : endsS s = (a, b)) (hab : lessB a b = true) (hs : s = (a, b) ∨ s = (b, a)) (ra : rightS a = true) (rb : rightS b = true)
include he
theorem stD_mem {x : Int × Int} : x ∈ stD l s ↔ x = a ∨ x = b ∨ ∃ i, i < l.length ∧ (x = (atS l i).1 ∨ x = (atS l i).2) ∧ insS x s = true := by
  unfold stD
  rw [ded_mem, stp_mem, he]
omit he in
theorem stD_asc : (stD l s).Pairwise (fun a b => lessB a b = true) := (ded_less (S := sortI (stpI l s l.length)) sort_less (sortI (stpI l s l.length)).length (Nat.le_refl _)).2.2.2
omit he in
theorem stD_lt {i j : Nat} (hij : i < j) (hj : j < (stD l s).length) : lessB (at2 (stD l s) i) (at2 (stD l s) j) = true := by
  rw [at2_eq (show i < (stD l s).length by omega), at2_eq hj]
  exact List.pairwise_iff_getElem.1 stD_asc i j (by omega) hj hij
include hab hs
theorem stD_in {x : Int × Int} (h : x ∈ stD l s) : crossI a b x = 0 ∧ (x = a ∨ lessB a x = true) ∧ (x = b ∨ lessB x b = true) := by
  rcases (stD_mem he).1 h with e | e | ⟨i, -, -, h⟩
  · rw [e]; exact ⟨by unfold crossI; grind, .inl rfl, .inr hab⟩
  · rw [e]; exact ⟨by unfold crossI; grind, .inr hab, .inl rfl⟩
  · obtain ⟨h1, h2, h3⟩ := (ins_iff he hab hs).1 h
    exact ⟨h1, .inr h2, .inr h3⟩
omit he hab hs in
theorem at_mem {D : List (Int × Int)} {i : Nat} (h : i < D.length) : at2 D i ∈ D := by
  rw [at2_eq h]; exact List.getElem_mem _
omit he hab hs in
theorem mem_at {D : List (Int × Int)} {x : Int × Int} (h : x ∈ D) : ∃ i, i < D.length ∧ at2 D i = x := by
  obtain ⟨i, hi, e⟩ := List.mem_iff_getElem.1 h
  exact ⟨i, hi, by rw [at2_eq hi]; exact e⟩
theorem stD_ends : 2 ≤ (stD l s).length ∧ at2 (stD l s) 0 = a ∧ at2 (stD l s) ((stD l s).length - 1) = b := by
  obtain ⟨i, hi, ei⟩ := mem_at ((stD_mem (l := l) he).2 (.inl rfl))
  obtain ⟨j, hj, ej⟩ := mem_at ((stD_mem (l := l) he).2 (.inr (.inl rfl)))
  have h0 : at2 (stD l s) 0 = a := by
    by_cases h : i = 0
    · rw [← h]; exact ei
    · have h1 := stD_lt (l := l) (s := s) (i := 0) (j := i) (by omega) hi
      rw [ei] at h1
      rcases (stD_in he hab hs (at_mem (show 0 < (stD l s).length by omega))).2.1 with e | h2
      · exact e
      · exact absurd (less_tr h1 h2) less_irr
  have h9 : at2 (stD l s) ((stD l s).length - 1) = b := by
    by_cases h : j = (stD l s).length - 1
    · rw [← h]; exact ej
    · have h1 := stD_lt (l := l) (s := s) (i := j) (j := (stD l s).length - 1) (by omega) (by omega)
      rw [ej] at h1
      rcases (stD_in he hab hs (at_mem (show (stD l s).length - 1 < (stD l s).length by omega))).2.2 with e | h2
      · exact e
      · exact absurd (less_tr h1 h2) less_irr
  refine ⟨?_, h0, h9⟩
  rcases Nat.lt_or_ge (stD l s).length 2 with h | h
  · rw [show (stD l s).length - 1 = 0 by omega, h0] at h9
    rw [h9] at hab
    exact absurd hab less_irr
  · exact h
omit he hab hs in
theorem nxt_fact (c b : Int × Int) : ∀ k, (nxtI l c b k = b ∨ ∃ i, i < k ∧ (nxtI l c b k = (atS l i).1 ∨ nxtI l c b k = (atS l i).2) ∧ insR (nxtI l c b k) (c, b) = true) ∧
    (∀ i, i < k → ∀ p, (p = (atS l i).1 ∨ p = (atS l i).2) → insR p (c, b) = true → lessB p (nxtI l c b k) = false) ∧ lessB b (nxtI l c b k) = false
  | 0 => ⟨.inl rfl, fun i hi => absurd hi (Nat.not_lt_zero _), by
      show lessB b b = false
      cases h : lessB b b with
      | true => exact absurd h less_irr
      | false => rfl⟩
  | k + 1 => by
    obtain ⟨h1, h2, h3⟩ := nxt_fact c b k
    have step : ∀ (q p : Int × Int), (nxA c b q p = q ∨ (nxA c b q p = p ∧ insR p (c, b) = true)) ∧ (insR p (c, b) = true → lessB p (nxA c b q p) = false) ∧ (∀ r, lessB r q = false → lessB r (nxA c b q p) = false) := by
      intro q p
      unfold nxA
      by_cases h : insR p (c, b) = true ∧ lessB p q = true
      · rw [if_pos h]
        refine ⟨.inr ⟨rfl, h.1⟩, fun _ => ?_, fun r hr => ?_⟩
        · rw [← Bool.not_eq_true, less_lex]; omega
        · have h2 := h.2
          rw [← Bool.not_eq_true, less_lex] at hr ⊢
          rw [less_lex] at h2
          omega
      · rw [if_neg h]
        exact ⟨.inl rfl, fun hi => by simpa using fun h3 => h ⟨hi, h3⟩, fun r hr => hr⟩
    obtain ⟨a1, a2, a3⟩ := step (nxtI l c b k) (atS l k).1
    obtain ⟨b1, b2, b3⟩ := step (nxA c b (nxtI l c b k) (atS l k).1) (atS l k).2
    show (nxA c b (nxA c b (nxtI l c b k) (atS l k).1) (atS l k).2 = b ∨ _) ∧ _ ∧ _
    refine ⟨?_, fun i hi p hp hin => ?_, b3 _ (a3 _ h3)⟩
    · rcases b1 with e | ⟨e, hi⟩
      · rw [show nxtI l c b (k + 1) = nxA c b (nxA c b (nxtI l c b k) (atS l k).1) (atS l k).2 from rfl, e]
        rcases a1 with e | ⟨e, hi⟩
        · rw [e]
          rcases h1 with h1 | ⟨i, hi, h1⟩
          · exact .inl h1
          · exact .inr ⟨i, by omega, h1⟩
        · rw [e]
          exact .inr ⟨k, by omega, .inl rfl, hi⟩
      · rw [show nxtI l c b (k + 1) = nxA c b (nxA c b (nxtI l c b k) (atS l k).1) (atS l k).2 from rfl, e]
        exact .inr ⟨k, by omega, .inr rfl, hi⟩
    · by_cases e : i = k
      · subst e
        rcases hp with rfl | rfl
        · exact b3 _ (a2 hin)
        · exact b2 hin
      · exact b3 _ (a3 _ (h2 i (by omega) p hp hin))
omit hab hs in
theorem stD_right (hl : l.all rightG = true) (ra : rightS a = true) (rb : rightS b = true) {x : Int × Int} (h : x ∈ stD l s) : rightS x = true := by
  rcases (stD_mem he).1 h with e | e | ⟨i, hi, hx, -⟩
  · rw [e]; exact ra
  · rw [e]; exact rb
  · have h1 : rightG (atS l i) = true := by rw [atS_eq hi]; exact List.all_eq_true.1 hl _ (List.getElem_mem _)
    obtain ⟨h2, h3, -⟩ := right_two h1
    rcases hx with e | e
    · rw [e]; exact h2
    · rw [e]; exact h3
theorem nxt_is (hl : l.all rightG = true) (ra : rightS a = true) (rb : rightS b = true) {k : Nat} (hk : k + 1 < (stD l s).length) : nxtI l (at2 (stD l s) k) b l.length = at2 (stD l s) (k + 1) := by
  obtain ⟨hlen, h0, h9⟩ := stD_ends (l := l) he hab hs
  have hcm := at_mem (show k < (stD l s).length by omega)
  have hnm := at_mem hk
  have hc := stD_in he hab hs hcm
  have hn := stD_in he hab hs hnm
  have rc := stD_right he hl ra rb hcm
  have hcn := stD_lt (l := l) (s := s) (i := k) (j := k + 1) (by omega) hk
  have hcb : lessB (at2 (stD l s) k) b = true := by
    rw [← h9]; exact stD_lt (by omega) (by omega)
  have hup : ∀ x, x ∈ stD l s → lessB (at2 (stD l s) k) x = true → lessB x (at2 (stD l s) (k + 1)) = false := by
    intro x hx h1
    obtain ⟨m, hm, rfl⟩ := mem_at hx
    by_cases h2 : m ≤ k
    · by_cases h3 : m = k
      · rw [h3] at h1; exact absurd h1 less_irr
      · exact absurd (less_tr h1 (stD_lt (by omega) (by omega))) less_irr
    · by_cases h3 : m = k + 1
      · rw [h3]
        cases h : lessB (at2 (stD l s) (k + 1)) (at2 (stD l s) (k + 1)) with
        | true => exact absurd h less_irr
        | false => rfl
      · cases h : lessB (at2 (stD l s) m) (at2 (stD l s) (k + 1)) with
        | true => exact absurd (less_tr h (stD_lt (by omega) hm)) less_irr
        | false => rfl
  generalize at2 (stD l s) k = c at *
  generalize hN : at2 (stD l s) (k + 1) = N at *
  obtain ⟨f1, f2, f3⟩ := nxt_fact (l := l) c b l.length
  generalize nxtI l c b l.length = q at *
  have hib := fun p => insR_iff (p := p) rc rb hcb
  refine less_tot ?_ ?_
  · -- q is not before N
    rcases f1 with e | ⟨i, hi, hx, hin⟩
    · rw [e]
      cases h : lessB b N with
      | false => rfl
      | true =>
        rcases hn.2.2 with e | h2
        · rw [e] at h; exact absurd h less_irr
        · exact absurd (less_tr h h2) less_irr
    · obtain ⟨g1, g2, g3⟩ := (hib q).1 hin
      have haq : lessB a q = true := by
        rcases hc.2.1 with e | h2
        · rw [← e]; exact g2
        · exact less_tr h2 g2
      have hl3 : crossI a b q = 0 := line3 hcb (line3 hab hc.1 (by unfold crossI; grind) (by unfold crossI; grind)) (by unfold crossI; grind) g1
      exact hup q ((stD_mem he).2 (.inr (.inr ⟨i, hi, hx, (ins_iff he hab hs).2 ⟨hl3, haq, g3⟩⟩))) g2
  · rcases (stD_mem he).1 hnm with e | e | ⟨i, hi, hx, hin⟩
    · rw [e] at hcn
      rcases hc.2.1 with e2 | h2
      · rw [e2] at hcn; exact absurd hcn less_irr
      · exact absurd (less_tr hcn h2) less_irr
    · rw [e]; exact f3
    · obtain ⟨g1, g2, g3⟩ := (ins_iff he hab hs).1 hin
      exact f2 i hi N hx ((hib N).2 ⟨line3 hab hc.1 (by unfold crossI; grind) g1, hcn, g3⟩)
end
end Go.Aw
