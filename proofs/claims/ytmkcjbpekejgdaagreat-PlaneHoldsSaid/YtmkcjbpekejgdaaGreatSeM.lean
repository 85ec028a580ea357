/-
  Parts of the proof, put together. No condition.
-/
import Derived.Test.YtmkcjbpekejgdaaGreatSe103
/-
  Hulls: corners are strictly to the left of each other's edges. No condition.
-/
set_option linter.unusedSimpArgs false
set_option linter.unusedVariables false
noncomputable section
namespace Go.Aw
section
variable {l H : List (Int × Int)}
theorem corners_mem (h : Corners l H) (h0 : 0 < l.length) : ∀ k, k < H.length → at2 H k ∈ l := by
  intro k hk
  have hp := h.pos
  by_cases h1 : H.length = 1
  · have e := h.one h1 (at2 l 0) (by rw [at2_eq h0]; exact List.getElem_mem _)
    rw [show k = 0 by omega, ← e, at2_eq h0]
    exact List.getElem_mem _
  · have := (h.edge (by omega) ((k + H.length - 1) % H.length) (Nat.mod_lt _ hp)).1
    rw [show ((k + H.length - 1) % H.length + 1) % H.length = k by
      by_cases hz : k = 0
      · subst hz
        rw [Nat.zero_add, Nat.mod_eq_of_lt (show H.length - 1 < H.length by omega), show H.length - 1 + 1 = H.length by omega, Nat.mod_self]
      · rw [show k + H.length - 1 = k - 1 + H.length by omega, Nat.add_mod_right, Nat.mod_eq_of_lt (show k - 1 < H.length by omega), Nat.mod_eq_of_lt (by omega)]
        omega] at this
    exact this
theorem corners_run (h : Corners l H) {i j : Nat} (hij : i < j) (hj : j < H.length) (e : at2 H i = at2 H j) : ∀ d, j + d ≤ H.length → at2 H (i + d) = at2 H ((j + d) % H.length)
  | 0, _ => by rw [Nat.add_zero, Nat.add_zero, Nat.mod_eq_of_lt hj]; exact e
  | d + 1, hd => by
    have ih := corners_run h hij hj e d (by omega)
    rw [Nat.mod_eq_of_lt (show j + d < H.length by omega)] at ih
    have n1 := h.next (i + d) (by omega)
    have n2 := h.next (j + d) (by omega)
    rw [ih] at n1
    rw [n1, Nat.mod_eq_of_lt (show i + d + 1 < H.length by omega)] at n2
    exact n2
theorem corners_inj (h : Corners l H) {i j : Nat} (hi : i < H.length) (hj : j < H.length) (e : at2 H i = at2 H j) : i = j := by
  have key : ∀ i j, i < j → j < H.length → at2 H i = at2 H j → False := by
    intro i j hij hj e
    have := corners_run h hij hj e (H.length - j) (by omega)
    rw [show j + (H.length - j) = H.length by omega, Nat.mod_self] at this
    exact h.first (i + (H.length - j)) (by omega) (by omega) this
  rcases Nat.lt_trichotomy i j with g | g | g
  · exact (key i j g hj e).elim
  · exact g
  · exact (key j i g hi e.symm).elim
theorem corners_nodup (h : Corners l H) : H.Nodup := by
  unfold List.Nodup
  refine List.pairwise_iff_getElem.2 fun i j hi hj hij e => ?_
  rw [← at2_eq hi, ← at2_eq hj] at e
  have := corners_inj h hi hj e
  omega
theorem corners_right (h : Corners l H) (h0 : 0 < l.length) (hr : l.all rightS = true) {k : Nat} (hk : k < H.length) : rightS (at2 H k) = true := List.all_eq_true.1 hr _ (corners_mem h h0 k hk)
theorem line_two {a b c d : Int × Int} (hc : crossI a b c = 0) : (key b - key c) * crossI c d a + (key c - key a) * crossI c d b = 0 := by
  unfold crossI key at *
  grind
theorem strict_of {a b c d : Int × Int} (hc : crossI a b c = 0) (hk : bk a b c) (hca : key c ≠ key a) (hcb : key c ≠ key b) (ha : 0 < crossI c d a ∨ (crossI c d a = 0 ∧ bk c d a)) (hb : 0 < crossI c d b ∨ (crossI c d b = 0 ∧ bk c d b)) : False := by
  have e := line_two (d := d) hc
  have hx : ∀ {x y A B : Int}, 0 < x → 0 < y → 0 ≤ A → 0 ≤ B → x * A + y * B = 0 → A = 0 ∧ B = 0 := by
    intro x y A B h1 h2 h3 h4 h5
    have m1 := mul_nn (Int.le_of_lt h1) h3
    have m2 := mul_nn (Int.le_of_lt h2) h4
    refine ⟨?_, ?_⟩
    · rcases Int.lt_or_le 0 A with g | g
      · have := mul_pp h1 g; omega
      · omega
    · rcases Int.lt_or_le 0 B with g | g
      · have := mul_pp h2 g; omega
      · omega
  have ha0 : 0 ≤ crossI c d a := by rcases ha with g | g <;> omega
  have hb0 : 0 ≤ crossI c d b := by rcases hb with g | g <;> omega
  have hz : crossI c d a = 0 ∧ crossI c d b = 0 := by
    rcases hk with ⟨k1, k2⟩ | ⟨k1, k2⟩
    · exact hx (show 0 < key b - key c by omega) (show 0 < key c - key a by omega) ha0 hb0 e
    · refine hx (show 0 < key c - key b by omega) (show 0 < key a - key c by omega) ha0 hb0 ?_
      have e2 : (key c - key b) * crossI c d a = - ((key b - key c) * crossI c d a) := by rw [← Int.neg_mul]; congr 1; omega
      have e3 : (key a - key c) * crossI c d b = - ((key c - key a) * crossI c d b) := by rw [← Int.neg_mul]; congr 1; omega
      omega
  unfold bk at *
  rcases ha with g | ⟨-, g1⟩
  · omega
  · rcases hb with g | ⟨-, g2⟩
    · omega
    · omega
theorem corners_strict (h : Corners l H) (h0 : 0 < l.length) (hr : l.all rightS = true) {k j : Nat} (hk : k < H.length) (hj : j < H.length) (h1 : j ≠ k) (h2 : j ≠ (k + 1) % H.length) : 0 < crossI (at2 H k) (at2 H ((k + 1) % H.length)) (at2 H j) := by
  have hk2 : (k + 1) % H.length < H.length := Nat.mod_lt _ h.pos
  have h2' : 2 ≤ H.length := by omega
  have E := h.edge h2' k hk
  rcases E.2.2 _ (corners_mem h h0 j hj) with g | ⟨g, gb⟩
  · exact g
  · exfalso
    have F := h.edge h2' j hj
    refine strict_of g gb (fun e => h1 ?_) (fun e => h2 ?_) (F.2.2 _ (corners_mem h h0 k hk)) (F.2.2 _ (corners_mem h h0 _ hk2))
    · exact corners_inj h hj hk (key_inj (corners_right h h0 hr hj) (corners_right h h0 hr hk) e)
    · exact corners_inj h hj hk2 (key_inj (corners_right h h0 hr hj) (corners_right h h0 hr hk2) e)
theorem bet_of {a b r : Int × Int} (ha : rightS a = true) (hb : rightS b = true) (hr : rightS r = true) (h : bk a b r) : betS r (a, b) = true := by
  unfold betS endsS
  unfold bk at h
  rw [ord_key ha hb]
  by_cases hc : 0 < cmpI (key a) (key b)
  · rw [if_pos hc]
    have hlt : key b < key a := by unfold cmpI at hc; split at hc <;> (try split at hc) <;> omega
    simp only [Bool.and_eq_true, decide_eq_true_eq]
    rw [ord_key hb hr, ord_key hr ha, cmp_le, cmp_le]
    omega
  · rw [if_neg hc]
    have hlt : key a ≤ key b := by unfold cmpI at hc; split at hc <;> (try split at hc) <;> omega
    simp only [Bool.and_eq_true, decide_eq_true_eq]
    rw [ord_key ha hr, ord_key hr hb, cmp_le, cmp_le]
    omega
theorem on_of {a b r : Int × Int} (ha : rightS a = true) (hb : rightS b = true) (hr : rightS r = true) (hc : crossI a b r = 0) (h : bk a b r) : onS r (a, b) = true := by
  unfold onS
  rw [bet_of ha hb hr h, decide_eq_true (turn_z.2 hc)]
  rfl
theorem corners_two (h : Corners l H) (h0 : 0 < l.length) (hr : l.all rightS = true) (h2 : H.length = 2) {r : Int × Int} (hm : r ∈ l) : onS r (at2 H 0, at2 H 1) = true := by
  have E := h.edge (by omega) 0 (by omega)
  have F := h.edge (by omega) 1 (by omega)
  rw [h2] at E F
  have E1 := E.2.2 r hm
  have F1 := F.2.2 r hm
  have e1 : (0 + 1) % 2 = 1 := rfl
  have e2 : (1 + 1) % 2 = 0 := rfl
  rw [e1] at E1
  rw [e2] at F1
  have e3 : crossI (at2 H 1) (at2 H 0) r = - crossI (at2 H 0) (at2 H 1) r := by unfold crossI; grind
  rcases E1 with g | ⟨g, gb⟩
  · omega
  · exact on_of (corners_right h h0 hr (by omega)) (corners_right h h0 hr (by omega)) (List.all_eq_true.1 hr _ hm) g gb
end
/-! ### the hull of a hull -/
theorem corners_same {l m H K : List (Int × Int)} (h : Corners l H) (hK : Corners m K) (e0 : at2 K 0 = at2 H 0) (hf : ∀ k, k < H.length → srchI m (at2 H k) m.length = at2 H ((k + 1) % H.length)) : K = H := by
  have hp := h.pos
  have kp := hK.pos
  have same : ∀ k, k < H.length → k < K.length → at2 K k = at2 H k := by
    intro k
    induction k with
    | zero => intro _ _; exact e0
    | succ k ih =>
      intro h1 h2
      have := hK.next k (by omega)
      rw [ih (by omega) (by omega), hf k (by omega), Nat.mod_eq_of_lt h1, Nat.mod_eq_of_lt h2] at this
      exact this.symm
  have hlen : K.length = H.length := by
    rcases Nat.lt_trichotomy K.length H.length with g | g | g
    · exfalso
      have n1 := hK.next (K.length - 1) (by omega)
      rw [show K.length - 1 + 1 = K.length by omega, Nat.mod_self, same _ (by omega) (by omega), hf _ (by omega), show K.length - 1 + 1 = K.length by omega, Nat.mod_eq_of_lt g, e0] at n1
      exact h.first K.length (by omega) g n1
    · exact g
    · exfalso
      have n1 := hK.next (H.length - 1) (by omega)
      rw [same _ (by omega) (by omega), hf _ (by omega), show H.length - 1 + 1 = H.length by omega, Nat.mod_self, Nat.mod_eq_of_lt g, ← e0] at n1
      exact hK.first H.length (by omega) g n1.symm
  exact ext_at hlen fun k hk => same k (by omega) hk
theorem lst_le {l : List (Int × Int)} (hr : l.all rightS = true) {r : Int × Int} (hm : r ∈ l) : key (lstI l l.length) ≤ key r := by
  obtain ⟨k, hk, e⟩ := List.mem_iff_getElem.1 hm
  rw [lst_least, ← e, ← at2_eq hk]
  exact leastI_le hr _ (Nat.le_refl _) k hk
theorem lst_mem {l : List (Int × Int)} (h0 : 0 < l.length) : lstI l l.length ∈ l := by
  have := leastI_lt l l.length
  rw [lst_least, at2_eq (by omega)]
  exact List.getElem_mem _
theorem hull_hull {l : List (Int × Int)} (hr : l.all rightS = true) (h0 : 0 < l.length) : hulL (hulL l) = hulL l := by
  obtain ⟨hC, hz⟩ := hull_corners hr h0
  have hHr : (hulL l).all rightS = true := List.all_eq_true.2 fun x hx => by
    obtain ⟨k, hk, e⟩ := List.mem_iff_getElem.1 hx
    rw [← e, ← at2_eq hk]
    exact corners_right hC h0 hr hk
  obtain ⟨hD, hy⟩ := hull_corners hHr hC.pos
  have sub : ∀ x ∈ hulL l, x ∈ l := fun x hx => by
    obtain ⟨k, hk, e⟩ := List.mem_iff_getElem.1 hx
    rw [← e, ← at2_eq hk]
    exact corners_mem hC h0 k hk
  refine corners_same hC hD ?_ fun k hk => ?_
  · have m0 : at2 (hulL l) 0 ∈ hulL l := by rw [at2_eq hC.pos]; exact List.getElem_mem _
    have k1 := lst_le hHr m0
    have k2 := lst_le hr (sub _ (lst_mem hC.pos))
    rw [← hz] at k2
    rw [hy]
    exact key_inj (List.all_eq_true.1 hHr _ (lst_mem hC.pos)) (List.all_eq_true.1 hHr _ m0) (by omega)
  · by_cases h1 : (hulL l).length = 1
    · have e1 : k = 0 := by omega
      subst e1
      rw [h1]
      refine scan_one (fun r hm => ?_) (by omega)
      exact hC.one h1 r (sub r hm)
    · have E := hC.edge (by have := hC.pos; omega) k hk
      refine scan_full ⟨?_, E.2.1, fun r hm => E.2.2 r (sub r hm)⟩
      rw [at2_eq (Nat.mod_lt _ hC.pos)]
      exact List.getElem_mem _
end Go.Aw
end

/-
  Hulls: with three corners or more they are convex polygons that have all points. No condition.
-/
set_option linter.unusedSimpArgs false
set_option linter.unusedVariables false
noncomputable section
namespace Go.Aw
theorem turn_of_pos {a b c : Int × Int} (h : 0 < crossI a b c) : turnS a b c = 1 := by
  unfold turnS sgn
  rw [if_neg (by omega), if_pos h]
theorem turn_of_zero {a b c : Int × Int} (h : crossI a b c = 0) : turnS a b c = 0 := turn_z.2 h
theorem mod_inj {n i j : Nat} (hi : i < n) (hj : j < n) (h : (i + 1) % n = (j + 1) % n) : i = j := by
  by_cases h1 : i + 1 = n
  · by_cases h2 : j + 1 = n
    · omega
    · rw [h1, Nat.mod_self, Nat.mod_eq_of_lt (by omega)] at h; omega
  · by_cases h2 : j + 1 = n
    · rw [h2, Nat.mod_self, Nat.mod_eq_of_lt (by omega)] at h; omega
    · rw [Nat.mod_eq_of_lt (by omega), Nat.mod_eq_of_lt (by omega)] at h; omega
section
variable {l H : List (Int × Int)}
theorem hull_simple (h : Corners l H) (h0 : 0 < l.length) (hr : l.all rightS = true) (h3 : 3 ≤ H.length) : simpleP H := by
  intro i k hik hk
  have hi : i < H.length := by omega
  have hi2 : (i + 1) % H.length < H.length := Nat.mod_lt _ h.pos
  have hk2 : (k + 1) % H.length < H.length := Nat.mod_lt _ h.pos
  show meetS (at2 H i, at2 H ((i + 1) % H.length)) (at2 H k, at2 H ((k + 1) % H.length)) = wantS i k H.length
  have S := fun {a b : Nat} (ha : a < H.length) (hb : b < H.length) h1 h2 => turn_of_pos (corners_strict h h0 hr (k := a) (j := b) ha hb h1 h2)
  have ei : (i + 1) % H.length = i + 1 := Nat.mod_eq_of_lt (by omega)
  by_cases c1 : k = i + 1
  · rw [show wantS i k H.length = 1 by unfold wantS; rw [if_pos (.inl c1)]]
    unfold meetS
    simp only
    have e1 : turnS (at2 H i) (at2 H ((i + 1) % H.length)) (at2 H k) = 0 := by
      rw [ei, ← c1]; exact turn_of_zero (cross_end ..)
    have ne1 : (k + 1) % H.length ≠ i := by
      by_cases g : k + 1 = H.length
      · rw [g, Nat.mod_self]; omega
      · rw [Nat.mod_eq_of_lt (by omega)]; omega
    have ne2 : (k + 1) % H.length ≠ (i + 1) % H.length := fun e => by have := mod_inj hk hi e; omega
    have e2 := S hi hk2 ne1 ne2
    have e4 : turnS (at2 H k) (at2 H ((k + 1) % H.length)) (at2 H ((i + 1) % H.length)) = 0 := by
      rw [ei, ← c1]; exact turn_of_zero (cross_back ..)
    rw [if_neg (fun g => by rw [e2] at g; omega), e1, e2, e4]
    unfold kindS
    rw [if_neg (by omega), if_pos (by omega)]
  · by_cases c2 : i = 0 ∧ k = H.length - 1
    · rw [show wantS i k H.length = 1 by unfold wantS; rw [if_pos (.inr c2)]]
      unfold meetS
      simp only
      obtain ⟨rfl, rfl⟩ := c2
      have ek : (H.length - 1 + 1) % H.length = 0 := by rw [show H.length - 1 + 1 = H.length by omega, Nat.mod_self]
      rw [ek, ei]
      have e1 : turnS (at2 H 0) (at2 H (0 + 1)) (at2 H (H.length - 1)) = 1 := by
        have := S hi hk (by omega) (by rw [ei]; omega)
        rw [ei] at this
        exact this
      have e2 : turnS (at2 H 0) (at2 H (0 + 1)) (at2 H 0) = 0 := turn_of_zero (cross_back ..)
      have e3 : turnS (at2 H (H.length - 1)) (at2 H 0) (at2 H 0) = 0 := turn_of_zero (cross_end ..)
      rw [if_neg (fun g => by rw [e1] at g; omega), e1, e2, e3]
      unfold kindS
      rw [if_neg (by omega), if_pos (by omega)]
    · rw [show wantS i k H.length = 0 by unfold wantS; rw [if_neg (by omega)]]
      unfold meetS
      simp only
      have e1 := S hi hk (by omega) (by omega)
      have ne1 : (k + 1) % H.length ≠ i := by
        by_cases g : k + 1 = H.length
        · rw [g, Nat.mod_self]; omega
        · rw [Nat.mod_eq_of_lt (by omega)]; omega
      have ne2 : (k + 1) % H.length ≠ (i + 1) % H.length := fun e => by have := mod_inj hk hi e; omega
      have e2 := S hi hk2 ne1 ne2
      rw [if_neg (fun g => by rw [e1] at g; omega), e1, e2]
      unfold kindS
      rw [if_pos (by omega)]
theorem hull_good (h : Corners l H) (h0 : 0 < l.length) (hr : l.all rightS = true) (h3 : 3 ≤ H.length) (hl : H.length ≤ 200) : goodP H :=
  ⟨h3, hl, List.all_eq_true.2 fun x hx => by
    obtain ⟨k, hk, e⟩ := List.mem_iff_getElem.1 hx
    rw [← e, ← at2_eq hk]
    exact corners_right h h0 hr hk, corners_nodup h⟩
theorem hull_poly (h : Corners l H) (h0 : 0 < l.length) (hr : l.all rightS = true) (h3 : 3 ≤ H.length) (hl : H.length ≤ 200) : polyE H = 0 := by
  rw [polyE_good (hull_good h h0 hr h3 hl), if_pos (simpleB_iff.2 (hull_simple h h0 hr h3))]
/-! ### its area -/
theorem area_fan (H : List (Int × Int)) (o : Int × Int) : ∀ k, areaI H k = areaI H k := fun _ => rfl
def fanI (H : List (Int × Int)) : Nat → Int
  | 0 => 0
  | i + 1 => fanI H i + crossI (at2 H 0) (at2 H i) (nxt H i)
theorem area_is (H : List (Int × Int)) : ∀ k, k < H.length → fanI H k = areaI H k - ((at2 H 0).1 * ((at2 H k).2 - (at2 H 0).2) - (at2 H 0).2 * ((at2 H k).1 - (at2 H 0).1))
  | 0, _ => by
    show (0 : Int) = 0 - _
    grind
  | k + 1, hk => by
    have ih := area_is H k (by omega)
    have e : nxt H k = at2 H (k + 1) := by unfold nxt; rw [Nat.mod_eq_of_lt hk]
    show fanI H k + crossI (at2 H 0) (at2 H k) (nxt H k) = areaI H k + ((at2 H k).1 * (nxt H k).2 - (nxt H k).1 * (at2 H k).2) - _
    rw [ih, e]
    unfold crossI
    grind
theorem area_all {H : List (Int × Int)} (h : 0 < H.length) : areaI H H.length = fanI H H.length := by
  obtain ⟨n, hn⟩ : ∃ n, H.length = n + 1 := ⟨H.length - 1, by omega⟩
  have ih := area_is H n (by omega)
  have e : nxt H n = at2 H 0 := by unfold nxt; rw [hn, Nat.mod_self]
  rw [hn]
  show areaI H n + ((at2 H n).1 * (nxt H n).2 - (nxt H n).1 * (at2 H n).2) = fanI H n + crossI (at2 H 0) (at2 H n) (nxt H n)
  rw [ih, e]
  unfold crossI
  grind
theorem hull_area (h : Corners l H) (h0 : 0 < l.length) (hr : l.all rightS = true) (h3 : 3 ≤ H.length) : ¬ areaI H H.length < 0 := by
  rw [area_all h.pos]
  have key : ∀ k, k ≤ H.length → 0 ≤ fanI H k := by
    intro k
    induction k with
    | zero => intro _; exact Int.le_refl _
    | succ k ih =>
      intro hk
      have := ih (by omega)
      have E := (h.edge (by omega) k (by omega)).2.2 (at2 H 0) (corners_mem h h0 0 h.pos)
      have e : crossI (at2 H 0) (at2 H k) (nxt H k) = crossI (at2 H k) (at2 H ((k + 1) % H.length)) (at2 H 0) := by
        unfold nxt crossI
        grind
      show 0 ≤ fanI H k + crossI (at2 H 0) (at2 H k) (nxt H k)
      rw [e]
      rcases E with g | ⟨g, -⟩ <;> omega
  have := key H.length (Nat.le_refl _)
  omega
theorem hull_conv (h : Corners l H) (h0 : 0 < l.length) (hr : l.all rightS = true) (hz : at2 H 0 = lstI l l.length) (h3 : 3 ≤ H.length) (hl : H.length ≤ 200) : convB H = true := by
  have hg := hull_good h h0 hr h3 hl
  have hd : dirI H = H := dirI_pos (hull_area h h0 hr h3)
  have hle : leastI H H.length = 0 := by
    refine Classical.byContradiction fun hne => ?_
    have k1 := least_strict hg.2.2.1 hg.2.2.2 h.pos h.pos (fun e => hne e.symm)
    have hlt := leastI_lt H H.length
    have k2 := lst_le hr (corners_mem h h0 _ (show leastI H H.length < H.length by omega))
    rw [hz] at k1
    omega
  have tp : ∀ k, 0 < turnS (cyc H k) (cyc H (k + 1)) (cyc H (k + 2)) := fun k => by
    unfold cyc
    have hk : k % H.length < H.length := Nat.mod_lt _ h.pos
    have hj : (k + 2) % H.length < H.length := Nat.mod_lt _ h.pos
    have e1 : (k + 1) % H.length = (k % H.length + 1) % H.length := (Nat.mod_add_mod k H.length 1).symm
    have e2 : (k + 2) % H.length = ((k % H.length + 1) % H.length + 1) % H.length := by rw [← e1, Nat.mod_add_mod]
    have hk1 : (k % H.length + 1) % H.length < H.length := Nat.mod_lt _ h.pos
    rw [e1, e2]
    generalize k % H.length = m at hk hk1 ⊢
    rw [turn_of_pos (corners_strict h h0 hr hk (Nat.mod_lt _ h.pos) ?_ ?_)]
    · decide
    · intro e
      by_cases g : m + 1 = H.length
      · rw [g, Nat.mod_self, Nat.mod_eq_of_lt (by omega)] at e; omega
      · rw [Nat.mod_eq_of_lt (show m + 1 < H.length by omega)] at e
        by_cases g2 : m + 1 + 1 = H.length
        · rw [g2, Nat.mod_self] at e; omega
        · rw [Nat.mod_eq_of_lt (by omega)] at e; omega
    · intro e
      by_cases g : (m + 1) % H.length + 1 = H.length
      · rw [g, Nat.mod_self] at e; omega
      · rw [Nat.mod_eq_of_lt (show (m + 1) % H.length + 1 < H.length by omega)] at e; omega
  have kept : ∀ k, k < H.length → keptO H k = true := fun k hk => by
    unfold keptO
    have := tp (k + H.length - 1)
    unfold cyc at this
    rw [show k + H.length - 1 + 1 = k + H.length by omega, show k + H.length - 1 + 2 = k + 1 + H.length by omega, Nat.add_mod_right, Nat.add_mod_right] at this
    simp only [Bool.not_eq_true', decide_eq_false_iff_not]
    omega
  have seg : ∀ n, n ≤ H.length → segI H 0 n = H.take n := by
    intro n
    induction n with
    | zero => intro _; rfl
    | succ n ih =>
      intro hn
      show segI H 0 n ++ (if keptO H (0 + n) = true then [at2 H ((0 + n) % H.length)] else []) = _
      rw [ih (by omega), Nat.zero_add, if_pos (kept n (by omega)), Nat.mod_eq_of_lt (by omega), take_snoc (by omega)]
  have hn : norR H = H := by
    unfold norR
    rw [hd, hle, seg _ (Nat.le_refl _), List.take_length]
  refine convB_yes (hull_poly h h0 hr h3 hl) fun i _ => ?_
  unfold bendP
  rw [hn]
  exact tp i
/-! ### its points -/
def upK (H : List (Int × Int)) (p : Int × Int) (k : Nat) : Prop := (at2 H k).2 ≤ p.2 ∧ p.2 < (at2 H ((k + 1) % H.length)).2
theorem hit_up {p : Int × Int} {k : Nat} (hc : 0 < crossI (at2 H k) (at2 H ((k + 1) % H.length)) p) : hitE (edgeS H k) p = true ↔ upK H p k := by
  unfold hitE loY hiY edgeS upK
  simp only
  generalize at2 H ((k + 1) % H.length) = b at hc ⊢
  generalize at2 H k = a at hc ⊢
  by_cases g : b.2 < a.2
  · rw [if_pos g, if_pos g]
    have e : crossI b a p = - crossI a b p := by unfold crossI; grind
    simp only [Bool.and_eq_true, decide_eq_true_eq]
    omega
  · rw [if_neg g, if_neg g]
    simp only [Bool.and_eq_true, decide_eq_true_eq]
    omega
theorem one_odd {l : List (Int × Int)} {p : Int × Int} {i : Nat} (hi : ∀ j, j < l.length → hitE (edgeS l j) p = decide (j = i)) : ∀ k, k ≤ l.length → inI l p k = decide (i < k)
  | 0, _ => by
    unfold inI
    exact (decide_eq_false (by omega)).symm
  | k + 1, hk => by
    unfold inI
    rw [one_odd hi k (by omega), hi k (by omega)]
    by_cases g1 : k = i
    · subst g1
      rw [decide_eq_true rfl, decide_eq_false (Nat.lt_irrefl _), decide_eq_true (Nat.lt_succ_self _)]
      rfl
    · rw [decide_eq_false g1]
      by_cases g2 : i < k
      · rw [decide_eq_true g2, decide_eq_true (by omega)]
        rfl
      · rw [decide_eq_false g2, decide_eq_false (by omega)]
        rfl
theorem arg_min (f : Nat → Int) : ∀ n, 0 < n → ∃ k, k < n ∧ ∀ j, j < n → f k ≤ f j
  | 0, h => by omega
  | 1, _ => ⟨0, by omega, fun j hj => by rw [show j = 0 by omega]; exact Int.le_refl _⟩
  | n + 2, _ => by
    obtain ⟨k, hk, h⟩ := arg_min f (n + 1) (by omega)
    by_cases g : f (n + 1) < f k
    · refine ⟨n + 1, by omega, fun j hj => ?_⟩
      by_cases e : j = n + 1
      · rw [e]; exact Int.le_refl _
      · have := h j (by omega); omega
    · refine ⟨k, by omega, fun j hj => ?_⟩
      by_cases e : j = n + 1
      · rw [e]; omega
      · exact h j (by omega)
theorem cross_y (z a b p : Int × Int) : crossI z a p * (b.2 - a.2) = crossI z a b * (p.2 - a.2) + crossI a b p * (a.2 - z.2) := by
  unfold crossI
  grind
theorem up_two (a b c d : Int × Int) (y : Int) : (b.2 - y) * crossI c d a + (y - a.2) * crossI c d b + ((d.2 - y) * crossI a b c + (y - c.2) * crossI a b d) = 0 := by
  unfold crossI
  grind
theorem prev_next {n m : Nat} (hm : m < n) : ((m + n - 1) % n + 1) % n = m := by
  by_cases hz : m = 0
  · subst hz
    rw [Nat.zero_add, Nat.mod_eq_of_lt (show n - 1 < n by omega), show n - 1 + 1 = n by omega, Nat.mod_self]
  · rw [show m + n - 1 = m - 1 + n by omega, Nat.add_mod_right, Nat.mod_eq_of_lt (show m - 1 < n by omega), Nat.mod_eq_of_lt (by omega)]
    omega
theorem hull_where (h : Corners l H) (h0 : 0 < l.length) (hr : l.all rightS = true) (h3 : 3 ≤ H.length) {p : Int × Int} (hm : p ∈ l) : whI H p ≠ 0 := by
  by_cases hon : onP H p
  · unfold whI
    rw [if_pos hon]
    decide
  · have hc : ∀ k, k < H.length → 0 < crossI (at2 H k) (at2 H ((k + 1) % H.length)) p := fun k hk => by
      rcases (h.edge (by omega) k hk).2.2 p hm with g | ⟨g, gb⟩
      · exact g
      · exact absurd ⟨k, hk, on_of (corners_right h h0 hr hk) (corners_right h h0 hr (Nat.mod_lt _ h.pos)) (List.all_eq_true.1 hr _ hm) g gb⟩ hon
    -- corners on both sides
    have tri : ∀ m, m < H.length → ∃ z b, 0 < crossI (at2 H z) (at2 H m) (at2 H b) ∧ 0 < crossI (at2 H z) (at2 H m) p ∧ 0 < crossI (at2 H m) (at2 H b) p ∧ z < H.length ∧ b < H.length := fun m hm' => by
      have hz : (m + H.length - 1) % H.length < H.length := Nat.mod_lt _ h.pos
      have e := prev_next hm'
      have c1 := hc _ hz
      rw [e] at c1
      have c2 := hc m hm'
      have hb : (m + 1) % H.length < H.length := Nat.mod_lt _ h.pos
      have c3 := corners_strict h h0 hr hz hb ?_ ?_
      · rw [e] at c3
        exact ⟨_, _, c3, c1, c2, hz, hb⟩
      · intro e2
        rw [show m + H.length - 1 = m + (H.length - 1) by omega] at e2
        by_cases g : m + 1 = H.length
        · rw [g, Nat.mod_self, show m + (H.length - 1) = m - 1 + H.length by omega, Nat.add_mod_right, Nat.mod_eq_of_lt (by omega)] at e2; omega
        · rw [Nat.mod_eq_of_lt (show m + 1 < H.length by omega)] at e2
          by_cases g2 : m = 0
          · rw [g2, Nat.zero_add, Nat.mod_eq_of_lt (by omega)] at e2; omega
          · rw [show m + (H.length - 1) = m - 1 + H.length by omega, Nat.add_mod_right, Nat.mod_eq_of_lt (by omega)] at e2; omega
      · intro e2
        rw [e] at e2
        by_cases g : m + 1 = H.length
        · rw [g, Nat.mod_self] at e2; omega
        · rw [Nat.mod_eq_of_lt (show m + 1 < H.length by omega)] at e2; omega
    have low : ∃ k, k < H.length ∧ (at2 H k).2 ≤ p.2 := by
      obtain ⟨m, hm', hmin⟩ := arg_min (fun k => (at2 H k).2) H.length h.pos
      refine ⟨m, hm', ?_⟩
      obtain ⟨z, b, c1, c2, c3, hz, hb⟩ := tri m hm'
      have e := cross_y (at2 H z) (at2 H m) (at2 H b) p
      have m1 : (at2 H m).2 ≤ (at2 H z).2 := hmin z hz
      have m2 : (at2 H m).2 ≤ (at2 H b).2 := hmin b hb
      rcases Int.lt_or_le p.2 (at2 H m).2 with g | g
      · exfalso
        have n1 := mul_nn (Int.le_of_lt c2) (show 0 ≤ (at2 H b).2 - (at2 H m).2 by omega)
        have n2 := mul_pp c1 (show 0 < (at2 H m).2 - p.2 by omega)
        have n3 := mul_nn (Int.le_of_lt c3) (show 0 ≤ (at2 H z).2 - (at2 H m).2 by omega)
        rw [show (at2 H m).2 - p.2 = -(p.2 - (at2 H m).2) by omega, Int.mul_neg] at n2
        rw [show (at2 H z).2 - (at2 H m).2 = -((at2 H m).2 - (at2 H z).2) by omega, Int.mul_neg] at n3
        omega
      · exact g
    have high : ∃ k, k < H.length ∧ p.2 < (at2 H k).2 := by
      obtain ⟨m, hm', hmin⟩ := arg_min (fun k => - (at2 H k).2) H.length h.pos
      refine ⟨m, hm', ?_⟩
      obtain ⟨z, b, c1, c2, c3, hz, hb⟩ := tri m hm'
      have e := cross_y (at2 H z) (at2 H m) (at2 H b) p
      have m1 : - (at2 H m).2 ≤ - (at2 H z).2 := hmin z hz
      have m2 : - (at2 H m).2 ≤ - (at2 H b).2 := hmin b hb
      rcases Int.lt_or_le p.2 (at2 H m).2 with g | g
      · exact g
      · exfalso
        have n1 := mul_nn (Int.le_of_lt c2) (show 0 ≤ (at2 H m).2 - (at2 H b).2 by omega)
        have n2 := mul_nn (Int.le_of_lt c1) (show 0 ≤ p.2 - (at2 H m).2 by omega)
        have n3 := mul_nn (Int.le_of_lt c3) (show 0 ≤ (at2 H m).2 - (at2 H z).2 by omega)
        have n1' := n1
        rw [show (at2 H m).2 - (at2 H b).2 = -((at2 H b).2 - (at2 H m).2) by omega, Int.mul_neg] at n1'
        have z1 : (at2 H b).2 = (at2 H m).2 := by
          rcases Int.lt_or_le (at2 H b).2 (at2 H m).2 with q | q
          · have := mul_pp c2 (show 0 < (at2 H m).2 - (at2 H b).2 by omega)
            rw [show (at2 H m).2 - (at2 H b).2 = -((at2 H b).2 - (at2 H m).2) by omega, Int.mul_neg] at this
            omega
          · omega
        have z2 : (at2 H z).2 = (at2 H m).2 := by
          rcases Int.lt_or_le (at2 H z).2 (at2 H m).2 with q | q
          · have := mul_pp c3 (show 0 < (at2 H m).2 - (at2 H z).2 by omega)
            omega
          · omega
        have : crossI (at2 H z) (at2 H m) (at2 H b) = 0 := by
          unfold crossI
          rw [z1, z2, Int.sub_self, Int.mul_zero, Int.zero_mul]
          rfl
        omega
    have some : ∃ k, k < H.length ∧ upK H p k := by
      refine Classical.byContradiction fun hno => ?_
      have down : ∀ k, k < H.length → (at2 H k).2 ≤ p.2 → (at2 H ((k + 1) % H.length)).2 ≤ p.2 := fun k hk g => by
        rcases Int.lt_or_le p.2 (at2 H ((k + 1) % H.length)).2 with q | q
        · exact absurd ⟨k, hk, g, q⟩ hno
        · exact q
      obtain ⟨i, hi, gi⟩ := low
      obtain ⟨j, hj, gj⟩ := high
      have all : ∀ d, (at2 H ((i + d) % H.length)).2 ≤ p.2 := by
        intro d
        induction d with
        | zero => rw [Nat.add_zero, Nat.mod_eq_of_lt hi]; exact gi
        | succ d ih =>
          have := down _ (Nat.mod_lt _ h.pos) ih
          rw [Nat.mod_add_mod] at this
          exact this
      have := all (j + H.length - i)
      rw [show i + (j + H.length - i) = j + H.length by omega, Nat.add_mod_right, Nat.mod_eq_of_lt hj] at this
      omega
    obtain ⟨i, hi, hup⟩ := some
    have uniq : ∀ j, j < H.length → upK H p j → j = i := fun j hj hupj => by
      refine Classical.byContradiction fun hne => ?_
      have hi2 : (i + 1) % H.length < H.length := Nat.mod_lt _ h.pos
      have hj2 : (j + 1) % H.length < H.length := Nat.mod_lt _ h.pos
      have S := fun {a b : Nat} (ha : a < H.length) (hb : b < H.length) => corners_strict h h0 hr (k := a) (j := b) ha hb
      have nn := fun {a b : Nat} (ha : a < H.length) (hb : b < H.length) => (show 0 ≤ crossI (at2 H a) (at2 H ((a + 1) % H.length)) (at2 H b) by
        rcases (h.edge (by omega) a ha).2.2 _ (corners_mem h h0 b hb) with g | ⟨g, -⟩ <;> omega)
      have e := up_two (at2 H i) (at2 H ((i + 1) % H.length)) (at2 H j) (at2 H ((j + 1) % H.length)) p.2
      obtain ⟨u1, u2⟩ := hup
      obtain ⟨v1, v2⟩ := hupj
      have m1 := mul_nn (show 0 ≤ (at2 H ((i + 1) % H.length)).2 - p.2 by omega) (nn hj hi)
      have m2 := mul_nn (show 0 ≤ p.2 - (at2 H i).2 by omega) (nn hj hi2)
      have m3 := mul_nn (show 0 ≤ (at2 H ((j + 1) % H.length)).2 - p.2 by omega) (nn hi hj)
      have m4 := mul_nn (show 0 ≤ p.2 - (at2 H j).2 by omega) (nn hi hj2)
      have q1 : i = (j + 1) % H.length := by
        refine Classical.byContradiction fun hq => ?_
        have := mul_pp (show 0 < (at2 H ((i + 1) % H.length)).2 - p.2 by omega) (S hj hi (fun e => hne e.symm) hq)
        omega
      rw [← q1] at v2
      omega
    have hit : ∀ j, j < H.length → hitE (edgeS H j) p = decide (j = i) := fun j hj => by
      by_cases g : j = i
      · rw [decide_eq_true g, hit_up (hc j hj), g]
        exact hup
      · rw [decide_eq_false g, ← Bool.not_eq_true, hit_up (hc j hj)]
        exact fun q => g (uniq j hj q)
    unfold whI
    rw [if_neg hon, one_odd hit _ (Nat.le_refl _), decide_eq_true hi, if_pos rfl]
    decide
end
end Go.Aw
end
