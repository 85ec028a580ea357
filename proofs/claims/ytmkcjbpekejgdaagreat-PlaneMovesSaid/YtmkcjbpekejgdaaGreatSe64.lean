/-
  Moved, mirrored, enlarged: Where and Area2. Plain arithmetic. No condition.
-/
import Derived.Test.YtmkcjbpekejgdaaGreatSe63
set_option linter.unusedSimpArgs false
set_option linter.unusedVariables false
noncomputable section
namespace Go.Aw
theorem WhV_F {F : Pt → Pt} {q : Int} (S : Sim F q) {l : List Pt} {p : Pt} (hr : l.all rightS = true) (hr' : (l.map F).all rightS = true) (hp : rightS p = true) (hp' : rightS (F p) = true)
    (hin : goodP l → (∀ i, i < l.length → onS p (edgeS l i) = false) → inI (l.map F) (F p) l.length = inI l p l.length) : WhV (l.map F) (F p) = WhV l p := by
  unfold WhV
  rw [poly_F S hr hr']
  by_cases h : polyE l = 0
  · rw [if_pos ⟨h, hp'⟩, if_pos ⟨h, hp⟩]
    have hg := (polyE_ok h).1
    exact wh_F S hg ((good_F S hr hr').2 hg) p (hin hg)
  · rw [if_neg fun h' => h h'.1, if_neg fun h' => h h'.1]
theorem WhV_mov {x y : Int} {l : List Pt} {p : Pt} (hr : l.all rightS = true) (hr' : (l.map (movF x y)).all rightS = true) (hp : rightS p = true) (hp' : rightS (movF x y p) = true) : WhV (l.map (movF x y)) (movF x y p) = WhV l p :=
  WhV_F (sim_mov x y) hr hr' hp hp' fun _ _ => inI_ord (sim_mov x y) (fun a b => by unfold movF; simp only; omega) l p _ (Nat.le_refl _)
theorem WhV_mir {x : Int} {l : List Pt} {p : Pt} (hr : l.all rightS = true) (hr' : (l.map (mirF x)).all rightS = true) (hp : rightS p = true) (hp' : rightS (mirF x p) = true) : WhV (l.map (mirF x)) (mirF x p) = WhV l p :=
  WhV_F (sim_mir x) hr hr' hp hp' fun hg hoff => inI_mirror x hg p hoff
/-- a list with two points, enlarged within the coordinates: not by a negative number -/
theorem enl_pos {k : Int} (hk : k ≠ 0) {l : List Pt} (hg : goodP l) (hr' : (l.map (enlF k)).all rightS = true) : 0 < k := by
  by_cases h : 0 < k
  · exact h
  · exfalso
    have hz : ∀ i, i < l.length → at2 l i = (0, 0) := fun i hi => by
      have r := right_low (all_at hg.2.2.1 hi)
      have r' := right_low (all_at hr' (i := i) (by rw [List.length_map]; exact hi))
      rw [at_F l hi] at r'
      unfold enlF at r'
      simp only at r'
      have h1 : (at2 l i).1 = 0 := by
        by_cases h1 : 0 < (at2 l i).1
        · have := Int.mul_neg_of_neg_of_pos (show k < 0 by omega) h1
          omega
        · omega
      have h2 : (at2 l i).2 = 0 := by
        by_cases h2 : 0 < (at2 l i).2
        · have := Int.mul_neg_of_neg_of_pos (show k < 0 by omega) h2
          omega
        · omega
      exact Prod.ext h1 h2
    have h3 := hg.1
    have := nodup_at hg.2.2.2 (i := 0) (k := 1) (by omega) (by omega) (by rw [hz 0 (by omega), hz 1 (by omega)])
    omega
theorem WhV_enl {k : Int} (hk : k ≠ 0) {l : List Pt} {p : Pt} (hr : l.all rightS = true) (hr' : (l.map (enlF k)).all rightS = true) (hp : rightS p = true) (hp' : rightS (enlF k p) = true) : WhV (l.map (enlF k)) (enlF k p) = WhV l p :=
  WhV_F (sim_enl hk) hr hr' hp hp' fun hg _ => inI_ord (sim_enl hk) (fun a b => by
    unfold enlF
    simp only
    have := enl_pos hk hg hr'
    exact ⟨fun h => Int.lt_of_mul_lt_mul_left h (Int.le_of_lt this), fun h => Int.mul_lt_mul_of_pos_left h this⟩) l p _ (Nat.le_refl _)
/-! ### areas -/
def cyc (l : List Pt) (i : Nat) : Pt := at2 l (i % l.length)
theorem nxt_F (F : Pt → Pt) (l : List Pt) {i : Nat} (hi : i < l.length) : nxt (l.map F) i = F (nxt l i) := by
  unfold nxt
  rw [List.length_map, at_F l (Nat.mod_lt _ (by omega))]
theorem area_mov (x y : Int) (l : List Pt) : ∀ i, i ≤ l.length → areaI (l.map (movF x y)) i = areaI l i + (y * ((cyc l 0).1 - (cyc l i).1) + x * ((cyc l i).2 - (cyc l 0).2))
  | 0, _ => by simp [areaI]
  | i + 1, hi => by
    have e1 : cyc l i = at2 l i := by unfold cyc; rw [Nat.mod_eq_of_lt (by omega)]
    have e2 : cyc l (i + 1) = nxt l i := rfl
    rw [areaI, areaI, area_mov x y l i (by omega), at_F l (by omega), nxt_F _ l (by omega), e1, e2]
    generalize at2 l i = a
    generalize nxt l i = b
    generalize cyc l 0 = c
    unfold movF
    simp only [Int.mul_add, Int.add_mul, Int.mul_sub, Int.sub_mul, Int.mul_comm]
    omega
theorem area_mir (x : Int) (l : List Pt) : ∀ i, i ≤ l.length → areaI (l.map (mirF x)) i = -areaI l i + x * ((cyc l i).2 - (cyc l 0).2)
  | 0, _ => by simp [areaI]
  | i + 1, hi => by
    have e1 : cyc l i = at2 l i := by unfold cyc; rw [Nat.mod_eq_of_lt (by omega)]
    have e2 : cyc l (i + 1) = nxt l i := rfl
    rw [areaI, areaI, area_mir x l i (by omega), at_F l (by omega), nxt_F _ l (by omega), e1, e2]
    generalize at2 l i = a
    generalize nxt l i = b
    generalize cyc l 0 = c
    unfold mirF
    simp only [Int.mul_add, Int.add_mul, Int.mul_sub, Int.sub_mul, Int.mul_comm]
    omega
theorem area_enl (k : Int) (l : List Pt) : ∀ i, i ≤ l.length → areaI (l.map (enlF k)) i = k * k * areaI l i
  | 0, _ => by simp [areaI]
  | i + 1, hi => by
    rw [areaI, areaI, area_enl k l i (by omega), at_F l (by omega), nxt_F _ l (by omega)]
    generalize at2 l i = a
    generalize nxt l i = b
    have e : ∀ u v : Int, k * u * (k * v) = k * k * (u * v) := fun u v => by
      rw [Int.mul_assoc, Int.mul_left_comm u, Int.mul_assoc]
    unfold enlF
    simp only
    rw [e, e, Int.mul_add, Int.mul_sub]
theorem cyc_end (l : List Pt) : cyc l l.length = cyc l 0 := by
  unfold cyc
  rw [Nat.mod_self, Nat.zero_mod]
theorem Area_F {F : Pt → Pt} {l : List Pt} {n : Int} (hl : l.length ≤ 400) (hr : l.all rightS = true) (hr' : (l.map F).all rightS = true) (ha : areaI (l.map F) l.length = n) : Area2V (l.map F) = n := by
  unfold Area2V
  rw [if_pos ⟨by rw [List.length_map]; exact hl, hr'⟩, List.length_map, ha]
theorem Area_V {l : List Pt} (hl : l.length ≤ 400) (hr : l.all rightS = true) : Area2V l = areaI l l.length := by
  unfold Area2V
  rw [if_pos ⟨hl, hr⟩]
theorem Area_mov {x y : Int} {l : List Pt} (hl : l.length ≤ 400) (hr : l.all rightS = true) (hr' : (l.map (movF x y)).all rightS = true) : Area2V (l.map (movF x y)) = Area2V l := by
  rw [Area_V hl hr]
  refine Area_F hl hr hr' ?_
  rw [area_mov x y l _ (Nat.le_refl _), cyc_end, Int.sub_self, Int.sub_self, Int.mul_zero, Int.mul_zero]
  omega
theorem Area_mir {x : Int} {l : List Pt} (hl : l.length ≤ 400) (hr : l.all rightS = true) (hr' : (l.map (mirF x)).all rightS = true) : Area2V (l.map (mirF x)) = -Area2V l := by
  rw [Area_V hl hr]
  refine Area_F hl hr hr' ?_
  rw [area_mir x l _ (Nat.le_refl _), cyc_end, Int.sub_self, Int.mul_zero]
  omega
theorem Area_enl {k : Int} {l : List Pt} (hl : l.length ≤ 400) (hr : l.all rightS = true) (hr' : (l.map (enlF k)).all rightS = true) : Area2V (l.map (enlF k)) = k * k * Area2V l := by
  rw [Area_V hl hr]
  exact Area_F hl hr hr' (area_enl k l _ (Nat.le_refl _))
end Go.Aw
