/-
  Within: stops, as points and as parts of a way. Plain. No condition.
-/
import Derived.Test.YtmkcjbpekejgdaaGreatSe142
import Derived.Test.YtmkcjbpekejgdaaGreatSe149
set_option linter.unusedSimpArgs false
set_option linter.unusedVariables false
namespace Go.Aw
/-- A part of the way along a segment, and its point. -/
def repF (s : Sg) (x p : Int × Int) : Prop := 0 < x.2 ∧ x.1 * (s.2.1 - s.1.1) = x.2 * (p.1 - s.1.1) ∧ x.1 * (s.2.2 - s.1.2) = x.2 * (p.2 - s.1.2)
theorem rep_A (s : Sg) : repF s (0, 1) s.1 := ⟨by decide, by show 0 * _ = 1 * (_ - _); omega, by show 0 * _ = 1 * (_ - _); omega⟩
theorem rep_B (s : Sg) : repF s (1, 1) s.2 := ⟨by decide, by show 1 * _ = 1 * (_ - _); omega, by show 1 * _ = 1 * (_ - _); omega⟩
theorem sgn_mulP (a : Int) : a ≠ 0 → 0 < a * sgn a := by
  intro h
  unfold sgn
  split
  · omega
  · split
    · omega
    · omega
theorem rep_frP {s : Sg} (hs : rightG s = true) {p : Int × Int} (h : onR p s = true) : repF s (frP s p) p := by
  obtain ⟨hra, hrb, hab⟩ := right_two hs
  obtain ⟨h1, h2, h3⟩ := onR_btw h
  unfold crossI at h3
  unfold repF frP
  split
  · rename_i h0
    have h4 : s.2.2 - s.1.2 ≠ 0 := fun e => hab (Prod.ext (by omega) (by omega))
    have hp : p.1 - s.1.1 = 0 := by
      rw [h0, Int.zero_mul] at h3
      have : (s.2.2 - s.1.2) * (p.1 - s.1.1) = 0 := by omega
      rcases Int.mul_eq_zero.1 this with e | e
      · exact absurd e h4
      · exact e
    refine ⟨sgn_mulP _ h4, ?_, ?_⟩
    · rw [h0, hp, Int.mul_zero, Int.mul_zero]
    · grind
  · rename_i h0
    refine ⟨sgn_mulP _ h0, ?_, ?_⟩
    · grind
    · have e : (p.1 - s.1.1) * (s.2.2 - s.1.2) = (s.2.1 - s.1.1) * (p.2 - s.1.2) := by grind
      show (p.1 - s.1.1) * sgn (s.2.1 - s.1.1) * (s.2.2 - s.1.2) = (s.2.1 - s.1.1) * sgn (s.2.1 - s.1.1) * (p.2 - s.1.2)
      rw [Int.mul_right_comm, e, Int.mul_right_comm]
theorem rep_diff {s : Sg} {x y p q : Int × Int} (hx : repF s x p) (hy : repF s y q) : (x.2 * y.2) * (q.1 - p.1) = (y.1 * x.2 - x.1 * y.2) * (s.2.1 - s.1.1) ∧ (x.2 * y.2) * (q.2 - p.2) = (y.1 * x.2 - x.1 * y.2) * (s.2.2 - s.1.2) := by
  obtain ⟨-, a1, a2⟩ := hx
  obtain ⟨-, b1, b2⟩ := hy
  constructor <;> grind
/-- Behind, by parts and by points. -/
theorem beh_iff {s : Sg} {x y p q : Int × Int} (hx : repF s x p) (hy : repF s y q) (hl : lessB s.1 s.2 = true) : x.1 * y.2 < y.1 * x.2 ↔ lessB p q = true := by
  obtain ⟨d1, d2⟩ := rep_diff hx hy
  have hm := Int.mul_pos hx.1 hy.1
  have hu := lex_sub.1 hl
  rw [lex_sub]
  have k1 := mulpos_iff hm (b := q.1 - p.1)
  have k2 := mulpos_iff hm (b := q.2 - p.2)
  have k3 : (x.2 * y.2) * (q.1 - p.1) = 0 ↔ q.1 - p.1 = 0 := by rw [Int.mul_eq_zero]; omega
  generalize x.2 * y.2 = m at *
  generalize hc : y.1 * x.2 - x.1 * y.2 = c at *
  rw [show (x.1 * y.2 < y.1 * x.2) ↔ 0 < c by omega]
  rw [d1] at k1 k3
  rw [d2] at k2
  rcases hu with hu | ⟨hu, hu2⟩
  · have j1 := mulpos_iff hu (b := c)
    rw [Int.mul_comm] at j1
    have j3 : c * (s.2.1 - s.1.1) = 0 ↔ c = 0 := by rw [Int.mul_eq_zero]; omega
    constructor
    · intro h; left; exact k1.1.1 (j1.1.2 h)
    · rintro (h | ⟨h, h2⟩)
      · exact j1.1.1 (k1.1.2 h)
      · exfalso
        have c0 := j3.1 (k3.2 h)
        rw [c0, Int.zero_mul] at k2
        omega
  · rw [hu, Int.mul_zero] at k1 k3
    have j1 := mulpos_iff hu2 (b := c)
    rw [Int.mul_comm] at j1
    constructor
    · intro h; right; exact ⟨k3.1 rfl, k2.1.1 (j1.1.2 h)⟩
    · rintro (h | ⟨h, h2⟩)
      · omega
      · exact j1.1.1 (k2.1.2 h2)
theorem beh_iff' {s : Sg} {x y p q : Int × Int} (hx : repF s x p) (hy : repF s y q) (hl : lessB s.2 s.1 = true) : x.1 * y.2 < y.1 * x.2 ↔ lessB q p = true := by
  have flip : ∀ {x p : Int × Int}, repF s x p → repF (s.2, s.1) (x.2 - x.1, x.2) p := by
    intro x p h
    obtain ⟨a0, a1, a2⟩ := h
    refine ⟨a0, ?_, ?_⟩
    · show (x.2 - x.1) * (s.1.1 - s.2.1) = x.2 * (p.1 - s.2.1)
      grind
    · show (x.2 - x.1) * (s.1.2 - s.2.2) = x.2 * (p.2 - s.2.2)
      grind
  have h := beh_iff (flip hy) (flip hx) hl
  rw [← h]
  show _ ↔ (y.2 - y.1) * x.2 < (x.2 - x.1) * y.2
  have e : (x.2 - x.1) * y.2 - (y.2 - y.1) * x.2 = y.1 * x.2 - x.1 * y.2 := by grind
  omega
theorem frac_tr {a b c : Int × Int} (ha : 0 < a.2) (hb : 0 < b.2) (hc : 0 < c.2) (h1 : a.1 * b.2 < b.1 * a.2) (h2 : b.1 * c.2 < c.1 * b.2) : a.1 * c.2 < c.1 * a.2 := by
  have k1 := Int.mul_lt_mul_of_pos_right h1 hc
  have k2 := Int.mul_lt_mul_of_pos_right h2 ha
  have e1 : b.1 * a.2 * c.2 = b.1 * c.2 * a.2 := Int.mul_right_comm _ _ _
  have k3 : (a.1 * c.2) * b.2 < (c.1 * a.2) * b.2 := by
    have e2 : a.1 * b.2 * c.2 = (a.1 * c.2) * b.2 := Int.mul_right_comm _ _ _
    have e3 : c.1 * b.2 * a.2 = (c.1 * a.2) * b.2 := Int.mul_right_comm _ _ _
    omega
  exact Int.lt_of_mul_lt_mul_right k3 (by omega)
/-- The next stop: the nearest of those behind. -/
theorem nxF_spec {T : List (Int × Int)} (hT : ∀ k, k < T.length → 0 < (at2 T k).2) {a : Int × Int} : ∀ {k}, k ≤ T.length → match nxF T a k with
    | none => ∀ i, i < k → ¬ a.1 * (at2 T i).2 < (at2 T i).1 * a.2
    | some y => (∃ i, i < k ∧ y = at2 T i) ∧ a.1 * y.2 < y.1 * a.2 ∧ ∀ i, i < k → a.1 * (at2 T i).2 < (at2 T i).1 * a.2 → ¬ (at2 T i).1 * y.2 < y.1 * (at2 T i).2
  | 0, _ => fun i hi => absurd hi (Nat.not_lt_zero i)
  | k + 1, hk => by
    have ih := nxF_spec hT (a := a) (k := k) (by omega)
    have hTk := hT k (by omega)
    by_cases h1 : behB a (at2 T k) = true
    · by_cases h2 : nearB (nxF T a k) (at2 T k) = true
      · rw [nxF_yes rfl h1 h2]
        refine ⟨⟨k, by omega, rfl⟩, of_decide_eq_true h1, fun i hi hbi => ?_⟩
        by_cases hik : i = k
        · subst hik; omega
        · have hi' : i < k := by omega
          cases hn : nxF T a k with
          | none =>
            rw [hn] at ih
            exact absurd hbi (ih i hi')
          | some y =>
            rw [hn] at ih h2
            obtain ⟨⟨m, hm, e⟩, i2, i3⟩ := ih
            have h3 : (at2 T k).1 * y.2 < y.1 * (at2 T k).2 := of_decide_eq_true h2
            intro h4
            refine i3 i hi' hbi ?_
            have hy : 0 < y.2 := by rw [e]; exact hT m (by omega)
            exact frac_tr (hT i (by omega)) hTk hy h4 h3
      · have h2' : nearB (nxF T a k) (at2 T k) = false := by simpa using h2
        rw [nxF_no rfl (.inr h2')]
        cases hn : nxF T a k with
        | none => rw [hn] at h2; exact absurd rfl h2
        | some y =>
          rw [hn] at ih h2'
          obtain ⟨⟨m, hm, e⟩, i2, i3⟩ := ih
          refine ⟨⟨m, by omega, e⟩, i2, fun i hi hbi => ?_⟩
          by_cases hik : i = k
          · subst hik; exact of_decide_eq_false h2'
          · exact i3 i (by omega) hbi
    · have h1' : behB a (at2 T k) = false := by simpa using h1
      rw [nxF_no rfl (.inl h1')]
      have h0 : ¬ a.1 * (at2 T k).2 < (at2 T k).1 * a.2 := of_decide_eq_false h1'
      cases hn : nxF T a k with
      | none =>
        rw [hn] at ih
        intro i hi
        by_cases hik : i = k
        · subst hik; exact h0
        · exact ih i (by omega)
      | some y =>
        rw [hn] at ih
        obtain ⟨⟨m, hm, e⟩, i2, i3⟩ := ih
        refine ⟨⟨m, by omega, e⟩, i2, fun i hi hbi => ?_⟩
        by_cases hik : i = k
        · subst hik; exact absurd hbi h0
        · exact i3 i (by omega) hbi
end Go.Aw
