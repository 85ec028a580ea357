/-
  Within: the program's is the reference's. Plain. No condition.
-/
import Derived.Test.YtmkcjbpekejgdaaGreatSe145
set_option linter.unusedSimpArgs false
set_option linter.unusedVariables false
namespace Go.Aw
/-- The points at which a segment stops. -/
def inSt (l : List (Int × Int)) (s : Sg) (p : Int × Int) : Prop := p = s.1 ∨ p = s.2 ∨ ∃ k, k < l.length ∧ insS (at2 l k) s = true ∧ p = at2 l k
def adjSt (l : List (Int × Int)) (s : Sg) (p q : Int × Int) : Prop := inSt l s p ∧ inSt l s q ∧ lessB p q = true ∧ ∀ r, inSt l s r → ¬ (lessB p r = true ∧ lessB r q = true)
theorem insS_onR {p : Int × Int} {s : Sg} (hs : rightG s = true) (h : insS p s = true) : onR p s = true := by
  rw [← on_eq p s hs]
  unfold insS at h
  simp only [Bool.and_eq_true] at h
  exact h.2.2
theorem onR_inSt {l : List (Int × Int)} {s : Sg} (hs : rightG s = true) {k : Nat} (hk : k < l.length) (h : onR (at2 l k) s = true) : inSt l s (at2 l k) := by
  by_cases h1 : at2 l k = s.1
  · exact .inl h1
  · by_cases h2 : at2 l k = s.2
    · exact .inr (.inl h2)
    · refine .inr (.inr ⟨k, hk, ?_, rfl⟩)
      unfold insS
      rw [(eqP_f _ _).2 h1, (eqP_f _ _).2 h2, on_eq _ _ hs, h]
      rfl
section
variable {l : List (Int × Int)} {s : Sg} {a b : Int × Int} (hgood : goodP l) (hs : rightG s = true) (hno : noX l s) (he : endsS s = (a, b)) (hab : lessB a b = true) (hsab : s = (a, b) ∨ s = (b, a))
include hs in
theorem rep_in {x : Int × Int} (h : x ∈ stF l s l.length) : ∃ p, inSt l s p ∧ repF s x p := by
  rcases stF_mem.1 h with e | e | ⟨k, hk, ho, e⟩
  · exact ⟨s.1, .inl rfl, by rw [e]; exact rep_A s⟩
  · exact ⟨s.2, .inr (.inl rfl), by rw [e]; exact rep_B s⟩
  · exact ⟨at2 l k, onR_inSt hs hk ho, by rw [e]; exact rep_frP hs ho⟩
include hs in
theorem in_rep {p : Int × Int} (h : inSt l s p) : ∃ i, i < (stF l s l.length).length ∧ repF s (at2 (stF l s l.length) i) p := by
  have key : ∃ x ∈ stF l s l.length, repF s x p := by
    rcases h with e | e | ⟨k, hk, hi, e⟩
    · exact ⟨(0, 1), stF_mem.2 (.inl rfl), by rw [e]; exact rep_A s⟩
    · exact ⟨(1, 1), stF_mem.2 (.inr (.inl rfl)), by rw [e]; exact rep_B s⟩
    · have ho := insS_onR hs hi
      exact ⟨frP s (at2 l k), stF_mem.2 (.inr (.inr ⟨k, hk, ho, rfl⟩)), by rw [e]; exact rep_frP hs ho⟩
  obtain ⟨x, hx, hr⟩ := key
  obtain ⟨i, hi, e⟩ := mem_at hx
  exact ⟨i, hi, by rw [e]; exact hr⟩
include he hab hsab in
theorem in_line {p : Int × Int} (h : inSt l s p) : crossI a b p = 0 ∧ ¬ lessB p a = true ∧ ¬ lessB b p = true := by
  have h1 : p = a ∨ p = b ∨ (crossI a b p = 0 ∧ lessB a p = true ∧ lessB p b = true) := by
    rcases h with e | e | ⟨k, hk, hi, e⟩
    · rcases hsab with h | h <;> rw [h] at e
      · exact .inl e
      · exact .inr (.inl e)
    · rcases hsab with h | h <;> rw [h] at e
      · exact .inr (.inl e)
      · exact .inl e
    · rw [e]; exact .inr (.inr ((ins_iff he hab hsab).1 hi))
  rcases h1 with e | e | ⟨e1, e2, e3⟩
  · rw [e]
    exact ⟨by unfold crossI; grind, fun h => less_irr h, fun h => less_irr (less_tr hab h)⟩
  · rw [e]
    exact ⟨by unfold crossI; grind, fun h => less_irr (less_tr hab h), fun h => less_irr h⟩
  · exact ⟨e1, fun h => less_irr (less_tr e2 h), fun h => less_irr (less_tr e3 h)⟩
include hgood hs hno he hab hsab in
theorem adj_mid {p q x y : Int × Int} (h : adjSt l s p q) (hx : repF s x p) (hy : repF s y q) : midV l s (x.1 * y.2 + y.1 * x.2) (2 * x.2 * y.2) = true ↔ whI (dblL l) (addP p q) ≠ 0 := by
  obtain ⟨h1, h2, h3, h4⟩ := h
  obtain ⟨p1, p2, -⟩ := in_line he hab hsab h1
  obtain ⟨q1, -, q3⟩ := in_line he hab hsab h2
  exact mid_iff hgood hs hno he hab hsab p1 q1 p2 q3 h3 (fun i hi hin => h4 _ (.inr (.inr ⟨i, hi, hin, rfl⟩))) hx hy
theorem midV_comm {x y : Int × Int} : midV l s (x.1 * y.2 + y.1 * x.2) (2 * x.2 * y.2) = midV l s (y.1 * x.2 + x.1 * y.2) (2 * y.2 * x.2) := by
  rw [Int.add_comm, Int.mul_right_comm]
include hsab hab in
/-- One way or the other. -/
theorem dir_of : (∀ {x y p q : Int × Int}, repF s x p → repF s y q → (x.1 * y.2 < y.1 * x.2 ↔ lessB p q = true)) ∨ (∀ {x y p q : Int × Int}, repF s x p → repF s y q → (x.1 * y.2 < y.1 * x.2 ↔ lessB q p = true)) := by
  rcases hsab with h | h
  · left
    intro x y p q hx hy
    exact beh_iff hx hy (by rw [h]; exact hab)
  · right
    intro x y p q hx hy
    exact beh_iff' hx hy (by rw [h]; exact hab)
include hgood hs hno he hab hsab in
theorem ref_adj : (∀ i, i < (stF l s l.length).length → okR l s (at2 (stF l s l.length) i) (nxF (stF l s l.length) (at2 (stF l s l.length) i) (stF l s l.length).length) = true) ↔ ∀ p q, adjSt l s p q → whI (dblL l) (addP p q) ≠ 0 := by
  have hpos : ∀ k, k < (stF l s l.length).length → 0 < (at2 (stF l s l.length) k).2 := fun k hk => (stF_B hs hk).2.2.1
  have rin : ∀ i, i < (stF l s l.length).length → ∃ p, inSt l s p ∧ repF s (at2 (stF l s l.length) i) p := fun i hi => rep_in hs (at_memP hi)
  have inr := fun p (h : inSt l s p) => in_rep hs h
  have hmid := fun (p q x y : Int × Int) (h : adjSt l s p q) (hx : repF s x p) (hy : repF s y q) => adj_mid hgood hs hno he hab hsab h hx hy
  have hspec := fun a => nxF_spec hpos (a := a) (Nat.le_refl _)
  have hadd : ∀ p q : Int × Int, addP p q = addP q p := fun p q => by unfold addP; rw [Int.add_comm, Int.add_comm p.2]
  generalize stF l s l.length = T at *
  have tri : ∀ {u v : Int × Int}, u ≠ v → lessB u v = true ∨ lessB v u = true := by
    intro u v h
    cases h1 : lessB u v with
    | true => exact .inl rfl
    | false =>
      cases h2 : lessB v u with
      | true => exact .inr rfl
      | false => exact absurd (less_tot h1 h2) h
  rcases dir_of hab hsab with hd | hd
  · constructor
    · intro hok p q hadj
      obtain ⟨i, hi, hx⟩ := inr p hadj.1
      obtain ⟨j, hj, hy⟩ := inr q hadj.2.1
      have h1 := hok i hi
      have h2 := hspec (at2 T i)
      cases hn : nxF T (at2 T i) T.length with
      | none =>
        rw [hn] at h2
        exact absurd ((hd hx hy).2 hadj.2.2.1) (h2 j hj)
      | some z =>
        rw [hn] at h1 h2
        obtain ⟨⟨m, hm, e⟩, i2, i3⟩ := h2
        obtain ⟨r, hr, hz⟩ := rin m hm
        rw [← e] at hz
        have hrq : r = q := by
          refine Classical.byContradiction fun h => ?_
          rcases tri h with h | h
          · exact hadj.2.2.2 r hr ⟨(hd hx hz).1 i2, h⟩
          · exact i3 j hj ((hd hx hy).2 hadj.2.2.1) ((hd hy hz).2 h)
        subst hrq
        exact (hmid p r _ _ hadj hx hz).1 h1
    · intro hG i hi
      obtain ⟨p, hp, hx⟩ := rin i hi
      have h2 := hspec (at2 T i)
      cases hn : nxF T (at2 T i) T.length with
      | none => rfl
      | some z =>
        rw [hn] at h2
        obtain ⟨⟨m, hm, e⟩, i2, i3⟩ := h2
        obtain ⟨r, hr, hz⟩ := rin m hm
        rw [← e] at hz
        have hadj : adjSt l s p r := ⟨hp, hr, (hd hx hz).1 i2, fun t ht ⟨h3, h4⟩ => by
          obtain ⟨j, hj, hy⟩ := inr t ht
          exact i3 j hj ((hd hx hy).2 h3) ((hd hy hz).2 h4)⟩
        exact (hmid p r _ _ hadj hx hz).2 (hG p r hadj)
  · constructor
    · intro hok p q hadj
      obtain ⟨i, hi, hx⟩ := inr q hadj.2.1
      obtain ⟨j, hj, hy⟩ := inr p hadj.1
      have h1 := hok i hi
      have h2 := hspec (at2 T i)
      cases hn : nxF T (at2 T i) T.length with
      | none =>
        rw [hn] at h2
        exact absurd ((hd hx hy).2 hadj.2.2.1) (h2 j hj)
      | some z =>
        rw [hn] at h1 h2
        obtain ⟨⟨m, hm, e⟩, i2, i3⟩ := h2
        obtain ⟨r, hr, hz⟩ := rin m hm
        rw [← e] at hz
        have hrq : r = p := by
          refine Classical.byContradiction fun h => ?_
          rcases tri h with h | h
          · exact i3 j hj ((hd hx hy).2 hadj.2.2.1) ((hd hy hz).2 h)
          · exact hadj.2.2.2 r hr ⟨h, (hd hx hz).1 i2⟩
        subst hrq
        refine (hmid r q _ _ hadj hz hx).1 ?_
        rw [midV_comm]
        exact h1
    · intro hG i hi
      obtain ⟨p, hp, hx⟩ := rin i hi
      have h2 := hspec (at2 T i)
      cases hn : nxF T (at2 T i) T.length with
      | none => rfl
      | some z =>
        rw [hn] at h2
        obtain ⟨⟨m, hm, e⟩, i2, i3⟩ := h2
        obtain ⟨r, hr, hz⟩ := rin m hm
        rw [← e] at hz
        have hadj : adjSt l s r p := ⟨hr, hp, (hd hx hz).1 i2, fun t ht ⟨h3, h4⟩ => by
          obtain ⟨j, hj, hy⟩ := inr t ht
          exact i3 j hj ((hd hx hy).2 h4) ((hd hy hz).2 h3)⟩
        have := (hmid r p _ _ hadj hz hx).2 (hG r p hadj)
        rw [midV_comm] at this
        exact this
include hgood hs in
theorem stQ_nodup : ∀ i, i ≤ l.length → (stQ l s i).Nodup
  | 0, _ => by
    rw [stQ_0]
    have := (right_two hs).2.2
    simp [this]
  | i + 1, hi => by
    have ih := stQ_nodup i (by omega)
    cases h : insS (at2 l i) s with
    | false => rw [stQ_no h]; exact ih
    | true =>
      rw [stQ_yes h, List.nodup_append]
      refine ⟨ih, by simp, fun x hx y hy e => ?_⟩
      rw [List.mem_singleton] at hy
      subst hy e
      have hins := h
      unfold insS at hins
      simp only [Bool.and_eq_true, Bool.not_eq_true'] at hins
      rcases stQ_mem.1 hx with e | e | ⟨k, hk, -, e⟩
      · exact (eqP_f _ _).1 hins.1 e
      · exact (eqP_f _ _).1 hins.2.1 e
      · have := nodup_at hgood.2.2.2 (show i < l.length by omega) (show k < l.length by omega) e
        omega
include hgood hs in
theorem stT_lt {i j : Nat} (hij : i < j) (hj : j < (stT l s).length) : lessB (at2 (stT l s) i) (at2 (stT l s) j) = true := by
  have hnd : (stT l s).Nodup := (sortI_perm (stQ l s l.length)).nodup_iff.2 (stQ_nodup hgood hs l.length (Nat.le_refl _))
  have h1 : lessB (at2 (stT l s) j) (at2 (stT l s) i) = false := sort_less i j hij hj
  cases h2 : lessB (at2 (stT l s) i) (at2 (stT l s) j) with
  | true => rfl
  | false =>
    have := nodup_at hnd (show i < (stT l s).length by omega) hj (less_tot h2 h1)
    omega
theorem stT_mem {p : Int × Int} : p ∈ stT l s ↔ inSt l s p := by
  unfold stT inSt
  rw [(sortI_perm (stQ l s l.length)).mem_iff, stQ_mem]
include hgood hs in
theorem prog_adj : (∀ i, i + 1 < (stT l s).length → whI (dblL l) (addP (at2 (stT l s) i) (at2 (stT l s) (i + 1))) ≠ 0) ↔ ∀ p q, adjSt l s p q → whI (dblL l) (addP p q) ≠ 0 := by
  constructor
  · intro h p q hadj
    obtain ⟨i, hi, rfl⟩ := mem_at (stT_mem.2 hadj.1)
    obtain ⟨j, hj, rfl⟩ := mem_at (stT_mem.2 hadj.2.1)
    have hlt := hadj.2.2.1
    have hij : i < j := by
      refine Classical.byContradiction fun hc => ?_
      rcases Nat.lt_or_ge j i with h1 | h1
      · exact less_irr (less_tr hlt (stT_lt hgood hs h1 hi))
      · have : i = j := by omega
        subst this
        exact less_irr hlt
    have hj1 : j = i + 1 := by
      refine Classical.byContradiction fun hc => ?_
      exact hadj.2.2.2 (at2 (stT l s) (i + 1)) (stT_mem.1 (at_memP (by omega))) ⟨stT_lt hgood hs (by omega) (by omega), stT_lt hgood hs (by omega) hj⟩
    subst hj1
    exact h i hj
  · intro h i hi
    refine h _ _ ⟨stT_mem.1 (at_memP (by omega)), stT_mem.1 (at_memP hi), stT_lt hgood hs (by omega) hi, fun r hr ⟨h1, h2⟩ => ?_⟩
    obtain ⟨c, hc, rfl⟩ := mem_at (stT_mem.2 hr)
    have c1 : i < c := by
      refine Classical.byContradiction fun hh => ?_
      rcases Nat.lt_or_ge c i with h3 | h3
      · exact less_irr (less_tr h1 (stT_lt hgood hs h3 (by omega)))
      · have : c = i := by omega
        subst this
        exact less_irr h1
    have c2 : c < i + 1 := by
      refine Classical.byContradiction fun hh => ?_
      rcases Nat.lt_or_ge (i + 1) c with h3 | h3
      · exact less_irr (less_tr h2 (stT_lt hgood hs h3 hc))
      · have : c = i + 1 := by omega
        subst this
        exact less_irr h2
    omega
end
theorem within_eq (l : List (Int × Int)) (s : Sg) : WP l s ↔ WR l s := by
  unfold WP WR
  constructor
  · rintro ⟨h1, h2, h3, h4, h5, h6⟩
    have hgood := (polyE_ok h2).1
    have hno : noX l s := fun i hi => by
      rw [← meet_eq _ _ h1 (edge_right hgood hi), ← meet_sym _ _ h1 (edge_right hgood hi)]
      exact h3 i hi
    obtain ⟨a, b, he, hab, hsab, -, -⟩ := ends_two h1
    exact ⟨h1, h2, h4, h5, hno, (ref_adj hgood h1 hno he hab hsab).2 ((prog_adj hgood h1).1 h6)⟩
  · rintro ⟨h1, h2, h4, h5, hno, h6⟩
    have hgood := (polyE_ok h2).1
    obtain ⟨a, b, he, hab, hsab, -, -⟩ := ends_two h1
    refine ⟨h1, h2, fun i hi => ?_, h4, h5, (prog_adj hgood h1).2 ((ref_adj hgood h1 hno he hab hsab).1 h6)⟩
    rw [meet_sym _ _ h1 (edge_right hgood hi), meet_eq _ _ h1 (edge_right hgood hi)]
    exact hno i hi
theorem wPR (l : List (Int × Int)) (s : Sg) : wP l s = wR l s := by
  unfold wP wR
  exact decide_eq_decide.2 (within_eq l s)
end Go.Aw
