/-
  The program's normal form is the reference's. Plain. No condition.
-/
import Derived.Test.YtmkcjbpekejgdaaGreatSe73
import Derived.Test.YtmkcjbpekejgdaaGreatSe30
set_option linter.unusedSimpArgs false
set_option linter.unusedVariables false
noncomputable section
namespace Go.Aw
theorem less_key {a b : Int × Int} (ha : rightS a = true) (hb : rightS b = true) : lessB a b = decide (key a < key b) := by
  simp only [rightS, Bool.and_eq_true, decide_eq_true_eq] at ha hb
  unfold lessB key
  by_cases h1 : a.1 < b.1
  · rw [decide_eq_true h1, Bool.true_or, decide_eq_true (by omega)]
  · rw [decide_eq_false h1, Bool.false_or]
    by_cases h2 : a.1 = b.1
    · rw [decide_eq_true h2, Bool.true_and]
      exact decide_eq_decide.2 (by omega)
    · rw [decide_eq_false h2, Bool.false_and, decide_eq_false (by omega)]
theorem key_inj {a b : Int × Int} (ha : rightS a = true) (hb : rightS b = true) (h : key a = key b) : a = b := (eqP_iff a b).1 ((eqP_key ha hb).2 h)
theorem turn_end (a b : Int × Int) : turnS a b b = 0 := by
  rw [turn_zero]
  unfold crossI
  rw [Int.mul_comm]
  omega
/-- Two edges that leave a corner to the same side and lie on one line have more than it in common. -/
theorem meet_fold {a b c : Int × Int} (ha : rightS a = true) (hb : rightS b = true) (hc : rightS c = true) (h1 : key b < key a) (h2 : key b < key c) (h0 : turnS a b c = 0) : meetS (a, b) (b, c) = 4 := by
  have hab : eqP a b = false := (eqP_keyf ha hb).2 (by omega)
  have hbc : eqP b c = false := (eqP_keyf hb hc).2 (by omega)
  have g1 : rightG (a, b) = true := by simp only [rightG, ha, hb, hab, Bool.not_false, Bool.and_self]
  have g2 : rightG (b, c) = true := by simp only [rightG, hb, hc, hbc, Bool.not_false, Bool.and_self]
  have e1 : endsS (a, b) = (b, a) := by
    unfold endsS
    simp only [ord_key ha hb, cmp_gt]
    rw [if_pos h1]
  have e2 : endsS (b, c) = (b, c) := by
    unfold endsS
    simp only [ord_key hb hc, cmp_gt]
    rw [if_neg (by omega)]
  have k1 := low_key (a, b) (b, c) g1 g2
  have k2 := high_key (a, b) (b, c) g1 g2
  rw [e1, e2] at k1 k2
  unfold meetS
  rw [if_pos ⟨turn_end a b, h0⟩, ord_key k1.1 k2.1, k1.2, k2.2, tbl_cmp, if_pos (by simp only; omega)]
theorem right_cyc {l : List (Int × Int)} (h : goodP l) (k : Nat) : rightS (cyc l k) = true := all_at h.2.2.1 (Nat.mod_lt _ (by have := h.1; omega))
/-- The least corner of a simple polygon is not straight. -/
theorem kept_least {l : List (Int × Int)} (h : goodP l) (hs : simpleP l) {i : Nat} (hi : i < l.length) (hm : ∀ k, k < l.length → k ≠ i → key (at2 l i) < key (at2 l k)) : keptO l i = true := by
  have h3 := h.1
  cases hk : keptO l i with
  | true => rfl
  | false =>
    exfalso
    rw [keptO_cyc, cyc_lt hi] at hk
    have h0 : turnS (cyc l (i + l.length - 1)) (at2 l i) (cyc l (i + 1)) = 0 := by simpa using hk
    have r1 := right_cyc h (i + l.length - 1)
    have r2 := all_at h.2.2.1 hi
    have r3 := right_cyc h (i + 1)
    have n1 : (i + 1) % l.length ≠ i := (next_ne (by omega) hi).symm
    have hlt : (i + 1) % l.length < l.length := Nat.mod_lt _ (by omega)
    have k2 : key (at2 l i) < key (cyc l (i + 1)) := hm _ hlt n1
    by_cases hz : i = 0
    · subst hz
      have e : cyc l (0 + l.length - 1) = at2 l (l.length - 1) := by rw [Nat.zero_add, cyc_lt (by omega)]
      rw [e] at h0 r1
      have k1 : key (at2 l 0) < key (at2 l (l.length - 1)) := hm _ (by omega) (by omega)
      have hf := meet_fold r1 r2 r3 k1 k2 h0
      have ho : meetS (edgeS l 0) (edgeS l (l.length - 1)) = wantS 0 (l.length - 1) l.length := hs 0 (l.length - 1) (by omega) (by omega)
      have ee : edgeS l (l.length - 1) = (at2 l (l.length - 1), at2 l 0) := by
        unfold edgeS
        rw [show l.length - 1 + 1 = l.length by omega, Nat.mod_self]
      have g1 := edge_right h (show 0 < l.length by omega)
      have g2 := edge_right h (show l.length - 1 < l.length by omega)
      rw [← meet_sym _ _ g1 g2, ee] at ho
      rw [show edgeS l 0 = (at2 l 0, cyc l (0 + 1)) from rfl, hf] at ho
      unfold wantS at ho
      rw [if_pos (.inr ⟨rfl, rfl⟩)] at ho
      omega
    · have e : cyc l (i + l.length - 1) = at2 l (i - 1) := by
        rw [show i + l.length - 1 = i - 1 + l.length by omega, cyc_add, cyc_lt (by omega)]
      rw [e] at h0 r1
      have k1 : key (at2 l i) < key (at2 l (i - 1)) := hm _ (by omega) (by omega)
      have hf := meet_fold r1 r2 r3 k1 k2 h0
      have ho : meetS (edgeS l (i - 1)) (edgeS l i) = wantS (i - 1) i l.length := hs (i - 1) i (by omega) hi
      have ee : edgeS l (i - 1) = (at2 l (i - 1), at2 l i) := by
        unfold edgeS
        rw [show i - 1 + 1 = i by omega, Nat.mod_eq_of_lt hi]
      rw [ee, show edgeS l i = (at2 l i, cyc l (i + 1)) from rfl, hf] at ho
      unfold wantS at ho
      rw [if_pos (.inl (by omega))] at ho
      omega
theorem leastI_le {o : List (Int × Int)} (hr : o.all rightS = true) : ∀ i, i ≤ o.length → ∀ k, k < i → key (at2 o (leastI o i)) ≤ key (at2 o k)
  | 0, _, k, hk => by omega
  | i + 1, hi, k, hk => by
    have ih := leastI_le hr i (by omega)
    have hl := leastI_lt o i
    have r1 := all_at hr (show i < o.length by omega)
    have r2 := all_at hr (show leastI o i < o.length by omega)
    unfold leastI
    rw [less_key r1 r2]
    by_cases h : key (at2 o i) < key (at2 o (leastI o i))
    · rw [if_pos (decide_eq_true h)]
      by_cases hki : k = i
      · rw [hki]; omega
      · have := ih k (by omega)
        omega
    · rw [if_neg (by rw [decide_eq_false h]; decide)]
      by_cases hki : k = i
      · rw [hki]; omega
      · exact ih k (by omega)
theorem least_strict {o : List (Int × Int)} (hr : o.all rightS = true) (hnd : o.Nodup) (h0 : 0 < o.length) {k : Nat} (hk : k < o.length) (hne : k ≠ leastI o o.length) : key (at2 o (leastI o o.length)) < key (at2 o k) := by
  have hl := leastI_lt o o.length
  have h1 := leastI_le hr o.length (Nat.le_refl _) k hk
  have hlt : leastI o o.length < o.length := by omega
  have h2 : key (at2 o (leastI o o.length)) ≠ key (at2 o k) := fun e => hne (nodup_at hnd hk hlt (key_inj (all_at hr hk) (all_at hr hlt) e.symm))
  omega
theorem minI_le {o : List (Int × Int)} (hr : o.all rightS = true) : ∀ i, i < o.length → rightS (minI o i) = true ∧ ∀ k, k ≤ i → key (minI o i) ≤ key (at2 o k)
  | 0, hi => ⟨all_at hr hi, fun k hk => by rw [show k = 0 by omega]; exact Int.le_refl _⟩
  | i + 1, hi => by
    obtain ⟨rm, ih⟩ := minI_le hr i (by omega)
    have r1 := all_at hr hi
    have hc : ordS (at2 o (i + 1)) (minI o i) < 0 ↔ key (at2 o (i + 1)) < key (minI o i) := by rw [ord_key r1 rm, cmp_lt]
    unfold minI
    by_cases h : key (at2 o (i + 1)) < key (minI o i)
    · rw [if_pos (hc.2 h)]
      refine ⟨r1, fun k hk => ?_⟩
      by_cases hki : k = i + 1
      · rw [hki]; exact Int.le_refl _
      · have := ih k (by omega)
        omega
    · rw [if_neg (fun h' => h (hc.1 h'))]
      refine ⟨rm, fun k hk => ?_⟩
      by_cases hki : k = i + 1
      · rw [hki]; omega
      · exact ih k (by omega)
theorem idxP_app {x : Int × Int} : ∀ {A B : List (Int × Int)} (i : Nat), x ∉ A → idxP x (A ++ x :: B) i = i + A.length
  | [], B, i, _ => by
    show (if eqP x x = true then (i : Int) else _) = _
    rw [if_pos ((eqP_iff x x).2 rfl)]
    rfl
  | a :: A, B, i, h => by
    have hne : ¬ eqP x a = true := fun e => h (by rw [(eqP_iff x a).1 e]; exact .head _)
    show (if eqP x a = true then (i : Int) else idxP x (A ++ x :: B) (i + 1)) = _
    rw [if_neg hne, idxP_app (i + 1) (fun h' => h (.tail _ h')), List.length_cons]
    omega
theorem top_app {A B : List (Int × Int)} {x : Int × Int} (hr : (A ++ x :: B).all rightS = true) (hA : x ∉ A) (hm : ∀ p ∈ A ++ x :: B, p ≠ x → key x < key p) : topI (A ++ x :: B) = x :: B ++ A := by
  have hl : (A ++ x :: B).length = A.length + B.length + 1 := by rw [List.length_append, List.length_cons]; omega
  have hx : x ∈ A ++ x :: B := List.mem_append_right _ (.head _)
  obtain ⟨k, hk, hke⟩ := List.mem_iff_getElem.1 hx
  have hmin : minI (A ++ x :: B) ((A ++ x :: B).length - 1) = x := by
    apply Classical.byContradiction
    intro hne
    have h1 := hm _ (minI_mem _ _ (by omega)) hne
    have h2 := (minI_le hr _ (show (A ++ x :: B).length - 1 < (A ++ x :: B).length by omega)).2 k (by omega)
    rw [at2_eq hk, hke] at h2
    omega
  unfold topI turnI
  rw [hmin, idxP_app 0 hA]
  rw [show ((0 : Nat) + (A.length : Int) : Int).toNat = A.length by omega]
  rw [List.drop_left, List.take_left]
theorem top_seg {o : List (Int × Int)} (hr : o.all rightS = true) (hnd : o.Nodup) {f : Nat} (hf : f < o.length) (hk : keptO o f = true) (hm : ∀ k, k < o.length → k ≠ f → key (at2 o f) < key (at2 o k)) : topI (rawI o o.length) = segI o f o.length ∧ 0 < (rawI o o.length).length := by
  have h0 : 0 < o.length := by omega
  obtain ⟨d, hd⟩ : ∃ d, o.length = f + (1 + d) := ⟨o.length - f - 1, by omega⟩
  have e0 : rawI o o.length = segI o 0 f ++ at2 o f :: segI o (f + 1) d := by
    rw [rawI_seg (Nat.le_refl _)]
    conv => lhs; rw [hd]
    rw [segI_add, Nat.zero_add, segI_one, if_pos hk, cyc_lt hf]
    rfl
  have e1 : segI o f o.length = at2 o f :: segI o (f + 1) d ++ segI o 0 f := by
    have e2 : o.length = (1 + d) + f := by omega
    conv => lhs; rw [e2]
    rw [segI_add, segI_one, if_pos hk, cyc_lt hf, show f + (1 + d) = 0 + o.length by omega, segI_per h0]
    rfl
  have hmem : ∀ p ∈ rawI o o.length, p ≠ at2 o f → key (at2 o f) < key p := by
    intro p hp hne
    have hp' := rawI_mem o o.length (Nat.le_refl _) p hp
    obtain ⟨k, hk, rfl⟩ := List.mem_iff_getElem.1 hp'
    rw [← at2_eq hk] at hne ⊢
    exact hm k hk fun e => hne (by rw [e])
  have hA : at2 o f ∉ segI o 0 f := by
    intro h
    obtain ⟨j, hj, e⟩ := segI_mem h
    rw [Nat.zero_add, cyc_lt (by omega)] at e
    have := nodup_at hnd hf (show j < o.length by omega) e
    omega
  have hR := rawI_right hr o.length (Nat.le_refl _)
  rw [e0] at hR hmem
  refine ⟨by rw [e0, top_app hR hA hmem, e1], ?_⟩
  rw [e0, List.length_append, List.length_cons]
  omega
theorem simple_rawpos {l : List (Int × Int)} (h : goodP l) (hs : simpleP l) : ∃ f, f < l.length ∧ keptO l f = true ∧ ∀ k, k < l.length → k ≠ f → key (at2 l f) < key (at2 l k) := by
  have h3 := h.1
  have hlt : leastI l l.length < l.length := by have := leastI_lt l l.length; omega
  have hm : ∀ k, k < l.length → k ≠ leastI l l.length → key (at2 l (leastI l l.length)) < key (at2 l k) := fun k hk hne => least_strict h.2.2.1 h.2.2.2 (by omega) hk hne
  exact ⟨_, hlt, kept_least h hs hlt hm, hm⟩
theorem raw_pos {l : List (Int × Int)} (h : goodP l) (hs : simpleP l) : 0 < (rawI l l.length).length := by
  obtain ⟨f, hf, hk, hm⟩ := simple_rawpos h hs
  exact (top_seg h.2.2.1 h.2.2.2 hf hk hm).2
theorem raw_area {l : List (Int × Int)} (h : goodP l) (hs : simpleP l) : areaI (rawI l l.length) (rawI l l.length).length = areaI l l.length := by
  obtain ⟨f, hf, hk, hm⟩ := simple_rawpos h hs
  obtain ⟨ht, hp⟩ := top_seg h.2.2.1 h.2.2.2 hf hk hm
  have h3 := h.1
  have ha := area_seg h.2.2.2 (show 2 ≤ l.length by omega) hk
  rw [← ha, ← ht]
  unfold topI
  have hjm := idxP_mem (p := minI (rawI l l.length) ((rawI l l.length).length - 1)) (l := rawI l l.length) 0 (minI_mem _ _ (by omega))
  rw [area_turn]
  omega
theorem nodup_rev {l : List (Int × Int)} (h : l.Nodup) : l.reverse.Nodup := List.pairwise_reverse.2 (h.imp fun hab => fun e => hab e.symm)
theorem norI_eq {l : List (Int × Int)} (h : goodP l) (hs : simpleP l) : norI l = norR l := by
  have h3 := h.1
  have hd : dirI (rawI l l.length) = rawI (dirI l) (dirI l).length := by
    unfold dirI
    rw [raw_area h hs]
    by_cases hn : areaI l l.length < 0
    · rw [if_pos hn, if_pos hn, rawI_rev]
    · rw [if_neg hn, if_neg hn]
  unfold norI norR
  rw [hd]
  obtain ⟨f, hf, hk, hm⟩ := simple_rawpos h hs
  -- the same corner in the list turned round
  have ho : ∃ f', f' < (dirI l).length ∧ keptO (dirI l) f' = true ∧ ∀ k, k < (dirI l).length → k ≠ f' → key (at2 (dirI l) f') < key (at2 (dirI l) k) := by
    unfold dirI
    by_cases hn : areaI l l.length < 0
    · rw [if_pos hn]
      refine ⟨l.length - 1 - f, by rw [List.length_reverse]; omega, ?_, ?_⟩
      · rw [keptO_rev (by omega), show l.length - 1 - (l.length - 1 - f) = f by omega]
        exact hk
      · intro k hk' hne
        rw [List.length_reverse] at hk'
        rw [at2_rev l (by omega), at2_rev l hk', show l.length - 1 - (l.length - 1 - f) = f by omega]
        exact hm _ (by omega) (by omega)
    · rw [if_neg hn]
      exact ⟨f, hf, hk, hm⟩
  have hr : (dirI l).all rightS = true := by
    unfold dirI
    split
    · rw [List.all_reverse]; exact h.2.2.1
    · exact h.2.2.1
  have hnd : (dirI l).Nodup := by
    unfold dirI
    split
    · exact nodup_rev h.2.2.2
    · exact h.2.2.2
  have hl := dirI_len l
  rw [← hl]
  generalize dirI l = o at ho hr hnd hl ⊢
  obtain ⟨f', hf', hk', hm'⟩ := ho
  have hlt : leastI o o.length < o.length := by have := leastI_lt o o.length; omega
  have hfe : f' = leastI o o.length := by
    apply Classical.byContradiction
    intro hne
    have h1 := least_strict hr hnd (by omega) hf' hne
    have h2 := hm' _ hlt (fun e => hne e.symm)
    omega
  rw [(top_seg hr hnd hf' hk' hm').1, hfe]
end Go.Aw
