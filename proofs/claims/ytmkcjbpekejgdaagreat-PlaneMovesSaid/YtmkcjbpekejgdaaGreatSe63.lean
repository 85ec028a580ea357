/-
  Moved, mirrored, enlarged: where points are. Plain arithmetic. No condition.
-/
import Derived.Test.YtmkcjbpekejgdaaGreatSe62
set_option linter.unusedSimpArgs false
set_option linter.unusedVariables false
noncomputable section
namespace Go.Aw
section
variable {F : Pt → Pt} {q : Int} (S : Sim F q)
theorem at_F (l : List Pt) {i : Nat} (hi : i < l.length) : at2 (l.map F) i = F (at2 l i) := by
  rw [at2_eq (by rw [List.length_map]; exact hi), at2_eq hi, List.getElem_map]
theorem edge_F (l : List Pt) {i : Nat} (hi : i < l.length) : edgeS (l.map F) i = mapG F (edgeS l i) := by
  unfold edgeS mapG
  rw [List.length_map, at_F l hi, at_F l (Nat.mod_lt _ (by omega))]
include S
theorem nodup_F (l : List Pt) : (l.map F).Nodup ↔ l.Nodup := by
  unfold List.Nodup
  rw [List.pairwise_map]
  constructor
  · exact fun h => h.imp fun hab e => hab (by rw [e])
  · exact fun h => h.imp fun hab e => hab (S.inj _ _ e)
theorem good_F {l : List Pt} (hr : l.all rightS = true) (hr' : (l.map F).all rightS = true) : goodP (l.map F) ↔ goodP l := by
  unfold goodP
  rw [List.length_map, nodup_F S]
  constructor
  · exact fun h => ⟨h.1, h.2.1, hr, h.2.2.2⟩
  · exact fun h => ⟨h.1, h.2.1, hr', h.2.2.2⟩
theorem okE_F {l : List Pt} (hg : goodP l) (hg' : goodP (l.map F)) {i k : Nat} (hi : i < l.length) (hk : k < l.length) : okE (l.map F) i k ↔ okE l i k := by
  unfold okE
  have e1 := edge_right hg hi
  have e2 := edge_right hg hk
  have e1' := edge_right hg' (i := i) (by rw [List.length_map]; exact hi)
  have e2' := edge_right hg' (i := k) (by rw [List.length_map]; exact hk)
  rw [List.length_map, meet_eq _ _ e1' e2', meet_eq _ _ e1 e2, edge_F l hi, edge_F l hk, meetR_F S]
theorem simple_F {l : List Pt} (hg : goodP l) (hg' : goodP (l.map F)) : simpleP (l.map F) ↔ simpleP l := by
  unfold simpleP
  rw [List.length_map]
  constructor
  · exact fun h i k h1 h2 => (okE_F S hg hg' (by omega) h2).1 (h i k h1 h2)
  · exact fun h i k h1 h2 => (okE_F S hg hg' (by omega) h2).2 (h i k h1 h2)
theorem poly_F {l : List Pt} (hr : l.all rightS = true) (hr' : (l.map F).all rightS = true) : polyE (l.map F) = polyE l := by
  by_cases h2 : 200 < l.length
  · rw [polyE_limit h2, polyE_limit (by rw [List.length_map]; exact h2)]
  · have h2' : ¬ 200 < (l.map F).length := by rw [List.length_map]; exact h2
    by_cases ha : argP l
    · have ha' : argP (l.map F) := by
        unfold argP at *
        rw [List.length_map]
        rw [hr] at ha
        rcases ha with h | h
        · exact .inl h
        · cases h
      rw [polyE_arg h2 ha, polyE_arg h2' ha']
    · have ha' : ¬ argP (l.map F) := by
        unfold argP at *
        rw [List.length_map, hr']
        rintro (h | h)
        · exact ha (.inl h)
        · cases h
      by_cases hn : l.Nodup
      · have hg := good_of h2 ha hn
        have hg' := good_of h2' ha' ((nodup_F S l).2 hn)
        rw [polyE_good hg, polyE_good hg']
        by_cases hs : simpleP l
        · rw [simpleB_iff.2 hs, simpleB_iff.2 ((simple_F S hg hg').2 hs)]
        · rw [simpleB_f hs, simpleB_f fun h => hs ((simple_F S hg hg').1 h)]
      · rw [polyE_twice h2 ha hn, polyE_twice h2' ha' fun h => hn ((nodup_F S l).1 h)]
theorem onS_F {l : List Pt} (hg : goodP l) (hg' : goodP (l.map F)) {i : Nat} (hi : i < l.length) (p : Pt) : onS (F p) (edgeS (l.map F) i) = onS p (edgeS l i) := by
  rw [on_eq _ _ (edge_right hg' (i := i) (by rw [List.length_map]; exact hi)), on_eq _ _ (edge_right hg hi), edge_F l hi, onR_F S]
/-- it is enough that the crossings are as many, for points off the edges -/
theorem wh_F {l : List Pt} (hg : goodP l) (hg' : goodP (l.map F)) (p : Pt) (hin : (∀ i, i < l.length → onS p (edgeS l i) = false) → inI (l.map F) (F p) l.length = inI l p l.length) : whI (l.map F) (F p) = whI l p := by
  by_cases h : ∃ i, i < l.length ∧ onS p (edgeS l i) = true
  · obtain ⟨i, hi, h⟩ := h
    rw [whI_on hi h, whI_on (i := i) (by rw [List.length_map]; exact hi) (by rw [onS_F S hg hg' hi]; exact h)]
  · have hoff : ∀ i, i < l.length → onS p (edgeS l i) = false := fun i hi => by
      cases hb : onS p (edgeS l i) with
      | false => rfl
      | true => exact absurd ⟨i, hi, hb⟩ h
    have hoff' : ∀ i, i < (l.map F).length → onS (F p) (edgeS (l.map F) i) = false := fun i hi => by
      rw [List.length_map] at hi
      rw [onS_F S hg hg' hi]
      exact hoff i hi
    rw [whI_off hoff, whI_off hoff', List.length_map, hin hoff]
end
/-! ### the order of heights kept -/
theorem hit_ord {F : Pt → Pt} (S : Sim F 1) (ho : ∀ a b : Pt, (F a).2 < (F b).2 ↔ a.2 < b.2) (e : Sg) (p : Pt) : hitE (mapG F e) (F p) = hitE e p := by
  have hl : loY (mapG F e) = F (loY e) := by
    unfold loY mapG
    simp only [ho]
    split <;> rfl
  have hh : hiY (mapG F e) = F (hiY e) := by
    unfold hiY mapG
    simp only [ho]
    split <;> rfl
  have hle : ∀ a b : Pt, (F a).2 ≤ (F b).2 ↔ a.2 ≤ b.2 := fun a b => by
    have := ho b a
    omega
  unfold hitE
  rw [hl, hh]
  simp only [ho, hle, ← turn_pos, S.turn, Int.one_mul]
theorem inI_ord {F : Pt → Pt} (S : Sim F 1) (ho : ∀ a b : Pt, (F a).2 < (F b).2 ↔ a.2 < b.2) (l : List Pt) (p : Pt) : ∀ i, i ≤ l.length → inI (l.map F) (F p) i = inI l p i
  | 0, _ => rfl
  | i + 1, hi => by
    rw [inI, inI, inI_ord S ho l p i (by omega), edge_F l (by omega), hit_ord S ho]
/-! ### mirrored: an even number of edges goes past a height -/
def below (p a : Pt) : Bool := decide (a.2 ≤ p.2)
def strad (e : Sg) (p : Pt) : Bool := below p e.1 != below p e.2
theorem hit_strad (e : Sg) (p : Pt) : hitE e p = (strad e p && decide (0 < crossI (loY e) (hiY e) p)) := by
  unfold hitE strad below loY hiY
  congr 1
  rw [Bool.eq_iff_iff]
  simp only [Bool.and_eq_true, decide_eq_true_eq, bne_iff_ne, ne_eq]
  by_cases h1 : e.1.2 ≤ p.2 <;> by_cases h2 : e.2.2 ≤ p.2 <;> by_cases h3 : e.2.2 < e.1.2 <;> simp [h1, h2, h3] <;> omega
theorem btw_of {n a b : Int} (h1 : 0 ≤ b - a → 0 ≤ n - a ∧ n - a ≤ b - a) (h2 : b - a ≤ 0 → b - a ≤ n - a ∧ n - a ≤ 0) : btw n a b = true := by
  rw [btw_inb]
  unfold inb
  by_cases h : 0 ≤ b - a
  · have := h1 h
    split <;> split <;> omega
  · have := h2 (by omega)
    split <;> split <;> omega
theorem btw_sym (n a b : Int) : btw n a b = btw n b a := by
  rw [Bool.eq_iff_iff]
  simp only [btw, Bool.and_eq_true, decide_eq_true_eq]
  split <;> split <;> (try split) <;> (try split) <;> omega
theorem onR_sym (p : Pt) (a b : Pt) : onR p (a, b) = onR p (b, a) := by
  unfold onR
  simp only
  rw [btw_sym p.1 a.1, btw_sym p.2 a.2]
  congr 1
  have := turn_back (a, b) p
  simp only at this
  rw [this, Bool.eq_iff_iff, decide_eq_true_eq, decide_eq_true_eq, Int.neg_eq_zero]
theorem lohi (e : Sg) : (e = (loY e, hiY e) ∧ e.1.2 ≤ e.2.2) ∨ (e = (hiY e, loY e) ∧ e.2.2 < e.1.2) := by
  unfold loY hiY
  by_cases h : e.2.2 < e.1.2
  · right
    rw [if_pos h, if_pos h]
    exact ⟨rfl, h⟩
  · left
    rw [if_neg h, if_neg h]
    exact ⟨rfl, by omega⟩
theorem on_line {a b p : Pt} (h1 : a.2 ≤ p.2) (h2 : p.2 < b.2) (h0 : crossI a b p = 0) : onR p (a, b) = true := by
  have h : (b.2 - a.2) * (p.1 - a.1) = (b.1 - a.1) * (p.2 - a.2) := by
    unfold crossI at h0
    omega
  have hb := boxy (ex := b.2 - a.2) (ey := b.1 - a.1) (ux := p.2 - a.2) (uy := p.1 - a.1) (by omega) h (by omega) (by omega)
  unfold onR
  simp only
  rw [btw_of hb.1 hb.2, btw_of (n := p.2) (a := a.2) (b := b.2) (fun _ => by omega) (fun _ => by omega), (turn0 _ _ _).2 h0]
  rfl
theorem strad_zero {e : Sg} {p : Pt} (h : strad e p = true) (h0 : crossI (loY e) (hiY e) p = 0) : onR p e = true := by
  have hs : (loY e).2 ≤ p.2 ∧ p.2 < (hiY e).2 := by
    have := hit_strad e p
    unfold strad below at h
    simp only [bne_iff_ne, ne_eq] at h
    unfold loY hiY
    by_cases h1 : e.1.2 ≤ p.2 <;> by_cases h2 : e.2.2 ≤ p.2 <;> by_cases h3 : e.2.2 < e.1.2 <;> simp [h1, h2, h3] at h ⊢ <;> omega
  have ho := on_line hs.1 hs.2 h0
  rcases lohi e with ⟨h1, _⟩ | ⟨h1, _⟩
  · rw [h1]; exact ho
  · rw [h1, onR_sym]; exact ho
theorem cross_mir (x : Int) (a b c : Pt) : crossI (mirF x a) (mirF x b) (mirF x c) = -crossI a b c := by
  unfold crossI mirF
  simp only
  rw [show x - b.1 - (x - a.1) = -(b.1 - a.1) by omega, show x - c.1 - (x - a.1) = -(c.1 - a.1) by omega, Int.neg_mul, Int.mul_neg]
  omega
theorem hit_mir (x : Int) (e : Sg) (p : Pt) (hoff : onR p e = false) : hitE (mapG (mirF x) e) (mirF x p) = (hitE e p != strad e p) := by
  have hl : loY (mapG (mirF x) e) = mirF x (loY e) := by
    unfold loY mapG mirF
    simp only
    split <;> rfl
  have hh : hiY (mapG (mirF x) e) = mirF x (hiY e) := by
    unfold hiY mapG mirF
    simp only
    split <;> rfl
  have hs : strad (mapG (mirF x) e) (mirF x p) = strad e p := rfl
  rw [hit_strad, hit_strad, hl, hh, hs, cross_mir]
  cases hst : strad e p with
  | false => rfl
  | true =>
    have hc : crossI (loY e) (hiY e) p ≠ 0 := fun h0 => by rw [strad_zero hst h0] at hoff; cases hoff
    by_cases h : 0 < crossI (loY e) (hiY e) p
    · rw [decide_eq_true h, decide_eq_false (by omega)]; rfl
    · rw [decide_eq_false h, decide_eq_true (by omega)]; rfl
def sI (l : List Pt) (p : Pt) : Nat → Bool
  | 0 => false
  | i + 1 => sI l p i != strad (edgeS l i) p
theorem inI_mir (x : Int) (l : List Pt) (p : Pt) (hg : ∀ i, i < l.length → onR p (edgeS l i) = false) : ∀ i, i ≤ l.length → inI (l.map (mirF x)) (mirF x p) i = (inI l p i != sI l p i)
  | 0, _ => rfl
  | i + 1, hi => by
    rw [inI, inI, sI, inI_mir x l p hg i (by omega), edge_F l (by omega), hit_mir x _ _ (hg i (by omega))]
    cases inI l p i <;> cases sI l p i <;> cases hitE (edgeS l i) p <;> cases strad (edgeS l i) p <;> rfl
theorem sI_part (l : List Pt) (p : Pt) : ∀ i, i < l.length → sI l p i = (below p (at2 l 0) != below p (at2 l i))
  | 0, _ => by
    rw [sI]
    cases below p (at2 l 0) <;> rfl
  | i + 1, hi => by
    rw [sI, sI_part l p i (by omega)]
    unfold strad edgeS
    simp only
    rw [Nat.mod_eq_of_lt hi]
    cases below p (at2 l 0) <;> cases below p (at2 l i) <;> cases below p (at2 l (i + 1)) <;> rfl
theorem sI_all (l : List Pt) (p : Pt) : sI l p l.length = false := by
  cases hn : l.length with
  | zero => rfl
  | succ n =>
    rw [sI, sI_part l p n (by omega)]
    unfold strad edgeS
    simp only
    rw [show (n + 1) % l.length = 0 by rw [hn, Nat.mod_self]]
    cases below p (at2 l 0) <;> cases below p (at2 l n) <;> rfl
theorem inI_mirror (x : Int) {l : List Pt} (hg : goodP l) (p : Pt) (hoff : ∀ i, i < l.length → onS p (edgeS l i) = false) : inI (l.map (mirF x)) (mirF x p) l.length = inI l p l.length := by
  rw [inI_mir x l p (fun i hi => by rw [← on_eq _ _ (edge_right hg hi)]; exact hoff i hi) _ (Nat.le_refl _), sI_all]
  cases inI l p l.length <;> rfl
end Go.Aw
