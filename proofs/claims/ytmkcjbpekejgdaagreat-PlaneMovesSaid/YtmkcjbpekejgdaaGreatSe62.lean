/-
  Moved, mirrored, enlarged: how segments meet stays. Plain arithmetic. No condition.
-/
import Derived.Test.YtmkcjbpekejgdaaGreatSe42
import Derived.Test.YtmkcjbpekejgdaaGreatSe49
import Derived.Test.YtmkcjbpekejgdaaGreatSe61
import Derived.Test.YtmkcjbpekejgdaaGreatSe57
set_option linter.unusedSimpArgs false
set_option linter.unusedVariables false
noncomputable section
namespace Go.Aw
abbrev Pt := Int × Int
def mapG (F : Pt → Pt) (s : Sg) : Sg := (F s.1, F s.2)
structure Sim (F : Pt → Pt) (q : Int) : Prop where
  inj : ∀ a b, F a = F b → a = b
  turn : ∀ a b c, turnS (F a) (F b) (F c) = q * turnS a b c
  box : ∀ p a b : Pt, (btw (F p).1 (F a).1 (F b).1 && btw (F p).2 (F a).2 (F b).2) = (btw p.1 a.1 b.1 && btw p.2 a.2 b.2)
  eps : q = 1 ∨ q = -1
theorem btw_mov (n a b x : Int) : btw (n + x) (a + x) (b + x) = btw n a b := by
  rw [Bool.eq_iff_iff, btw_inb, btw_inb]
  rw [show b + x - (a + x) = b - a by omega, show n + x - (a + x) = n - a by omega]
theorem btw_mir (n a b x : Int) : btw (x - n) (x - a) (x - b) = btw n a b := by
  rw [Bool.eq_iff_iff, btw_inb, btw_inb, ← inb_neg]
  rw [show -(x - b - (x - a)) = b - a by omega, show -(x - n - (x - a)) = n - a by omega]
theorem inb_mul {k e u : Int} (hk : 0 < k) : inb (k * e) (k * u) ↔ inb e u := by
  have h1 : ∀ a b : Int, k * a ≤ k * b ↔ a ≤ b := fun a b => Int.mul_le_mul_left hk
  have h0 : ∀ a : Int, 0 < k * a ↔ 0 < a := fun a => by
    have := h1 a 0
    rw [Int.mul_zero] at this
    omega
  have h2 : ∀ a : Int, k * a < 0 ↔ a < 0 := fun a => by
    have := h1 0 a
    rw [Int.mul_zero] at this
    omega
  have h3 : ∀ a : Int, 0 ≤ k * a ↔ 0 ≤ a := fun a => by have := h2 a; omega
  have h4 : ∀ a : Int, k * a ≤ 0 ↔ a ≤ 0 := fun a => by have := h0 a; omega
  unfold inb
  simp only [h0, h2]
  have x1 := h1 e u
  have x2 := h1 u e
  have x3 := h3 u
  have x4 := h4 u
  split <;> split <;> omega
theorem btw_mul (n a b k : Int) (hk : k ≠ 0) : btw (k * n) (k * a) (k * b) = btw n a b := by
  rw [Bool.eq_iff_iff, btw_inb, btw_inb, ← Int.mul_sub, ← Int.mul_sub]
  by_cases h : 0 < k
  · exact inb_mul h
  · rw [← inb_neg, ← Int.neg_mul, ← Int.neg_mul]
    exact inb_mul (by omega)
theorem sim_mov (x y : Int) : Sim (movF x y) 1 where
  inj a b h := by
    unfold movF at h
    injection h with h1 h2
    exact Prod.ext (by omega) (by omega)
  turn a b c := by
    unfold turnS crossI movF
    simp only
    rw [Int.one_mul, show b.1 + x - (a.1 + x) = b.1 - a.1 by omega, show c.2 + y - (a.2 + y) = c.2 - a.2 by omega, show b.2 + y - (a.2 + y) = b.2 - a.2 by omega, show c.1 + x - (a.1 + x) = c.1 - a.1 by omega]
  box p a b := by
    unfold movF
    simp only [btw_mov]
  eps := .inl rfl
theorem sim_mir (x : Int) : Sim (mirF x) (-1) where
  inj a b h := by
    unfold mirF at h
    injection h with h1 h2
    exact Prod.ext (by omega) (by omega)
  turn a b c := by
    unfold turnS crossI mirF
    simp only
    rw [Int.neg_mul, Int.one_mul, ← sgn_neg]
    congr 1
    rw [show x - b.1 - (x - a.1) = -(b.1 - a.1) by omega, show x - c.1 - (x - a.1) = -(c.1 - a.1) by omega, Int.neg_mul, Int.mul_neg]
    omega
  box p a b := by
    unfold mirF
    simp only [btw_mir]
  eps := .inr rfl
theorem sgn_mulpos {k n : Int} (hk : 0 < k) : sgn (k * n) = sgn n := by
  unfold sgn
  have h1 : k * n < 0 ↔ n < 0 := ⟨fun h => by
    by_cases h2 : n < 0
    · exact h2
    · have := Int.mul_nonneg (show 0 ≤ k by omega) (show 0 ≤ n by omega)
      omega, fun h => Int.mul_neg_of_pos_of_neg hk h⟩
  have h2 : 0 < k * n ↔ 0 < n := ⟨fun h => by
    by_cases h2 : 0 < n
    · exact h2
    · have := Int.mul_nonpos_of_nonneg_of_nonpos (show 0 ≤ k by omega) (show n ≤ 0 by omega)
      omega, fun h => Int.mul_pos hk h⟩
  simp only [h1, h2]
theorem sim_enl {k : Int} (hk : k ≠ 0) : Sim (enlF k) 1 where
  inj a b h := by
    unfold enlF at h
    injection h with h1 h2
    exact Prod.ext (Int.eq_of_mul_eq_mul_left hk h1) (Int.eq_of_mul_eq_mul_left hk h2)
  turn a b c := by
    unfold turnS enlF
    rw [Int.one_mul]
    have hkk : 0 < k * k := by
      rcases Int.lt_or_gt_of_ne hk with h | h
      · exact Int.mul_pos_of_neg_of_neg h h
      · exact Int.mul_pos h h
    rw [← sgn_mulpos (n := crossI a b c) hkk]
    congr 1
    unfold crossI
    simp only
    rw [← Int.mul_sub, ← Int.mul_sub, ← Int.mul_sub, ← Int.mul_sub, Int.mul_sub (k * k)]
    have e : ∀ u v : Int, k * u * (k * v) = k * k * (u * v) := fun u v => by
      rw [Int.mul_assoc, Int.mul_left_comm u, Int.mul_assoc]
    rw [e, e]
  box p a b := by
    unfold enlF
    simp only [btw_mul _ _ _ _ hk]
  eps := .inl rfl
section
variable {F : Pt → Pt} {q : Int} (S : Sim F q)
include S
theorem onR_F (p : Pt) (s : Sg) : onR (F p) (mapG F s) = onR p s := by
  unfold onR mapG
  rw [S.box p s.1 s.2, S.turn]
  congr 1
  rcases S.eps with h | h <;> subst h
  · rw [Int.one_mul]
  · rw [Int.neg_mul, Int.one_mul]
    congr 1
    rw [Int.neg_eq_zero]
theorem eqP_F (a b : Pt) : eqP (F a) (F b) = eqP a b := by
  rw [Bool.eq_iff_iff, eqP_iff, eqP_iff]
  exact ⟨S.inj a b, fun h => by rw [h]⟩
theorem known_F (p : Pt) (l : List Pt) : knownS (F p) (l.map F) = knownS p l := by
  induction l with
  | nil => rfl
  | cons a r ih => simp only [List.map_cons, knownS, eqP_F S, ih]
theorem add_F (s t : Sg) (out : List Pt) (p : Pt) : addE (mapG F s) (mapG F t) (out.map F) (F p) = (addE s t out p).map F := by
  unfold addE
  rw [onR_F S, onR_F S, known_F S]
  split
  · rw [List.map_append]; rfl
  · rfl
theorem ends_F (s t : Sg) : endsL (mapG F s) (mapG F t) = (endsL s t).map F := by
  unfold endsL
  have h0 : ([] : List Pt) = ([] : List Pt).map F := rfl
  rw [show (mapG F s).1 = F s.1 from rfl, show (mapG F s).2 = F s.2 from rfl, show (mapG F t).1 = F t.1 from rfl, show (mapG F t).2 = F t.2 from rfl]
  conv => lhs; rw [h0]
  rw [add_F S, add_F S, add_F S, add_F S]
theorem meetR_F (s t : Sg) : meetR (mapG F s) (mapG F t) = meetR s t := by
  rw [meetR_L, meetR_L, ends_F S]
  cases endsL s t with
  | nil =>
    simp only [List.map_nil, kindL]
    have h : ∀ a b c d e f : Pt, turnS (F a) (F b) (F c) * turnS (F d) (F e) (F f) = turnS a b c * turnS d e f := fun a b c d e f => by
      rw [S.turn, S.turn]
      rcases S.eps with h | h <;> subst h
      · rw [Int.one_mul, Int.one_mul]
      · rw [show (-1 : Int) * turnS a b c = -turnS a b c by omega, show (-1 : Int) * turnS d e f = -turnS d e f by omega, Int.neg_mul_neg]
    rw [show (mapG F s).1 = F s.1 from rfl, show (mapG F s).2 = F s.2 from rfl, show (mapG F t).1 = F t.1 from rfl, show (mapG F t).2 = F t.2 from rfl, h, h]
  | cons p r =>
    cases r with
    | nil =>
      simp only [List.map_cons, List.map_nil, kindL]
      rw [show (mapG F s).1 = F s.1 from rfl, show (mapG F s).2 = F s.2 from rfl, show (mapG F t).1 = F t.1 from rfl, show (mapG F t).2 = F t.2 from rfl]
      simp only [eqP_F S]
    | cons p2 r2 => rfl
theorem rightG_F {s : Sg} (h1 : rightS s.1 = true) (h2 : rightS s.2 = true) (k1 : rightS (F s.1) = true) (k2 : rightS (F s.2) = true) : rightG (mapG F s) = rightG s := by
  unfold rightG mapG
  simp only [h1, h2, k1, k2, eqP_F S]
theorem MeetV_F {s t : Sg} (h1 : rightS s.1 = true) (h2 : rightS s.2 = true) (h3 : rightS t.1 = true) (h4 : rightS t.2 = true) (k1 : rightS (F s.1) = true) (k2 : rightS (F s.2) = true) (k3 : rightS (F t.1) = true) (k4 : rightS (F t.2) = true) : MeetV (mapG F s) (mapG F t) = MeetV s t := by
  have es := rightG_F S h1 h2 k1 k2
  have et := rightG_F S h3 h4 k3 k4
  unfold MeetV
  by_cases h : rightG s = true ∧ rightG t = true
  · rw [if_pos h, if_pos ⟨es.trans h.1, et.trans h.2⟩, meet_eq _ _ (es.trans h.1) (et.trans h.2), meet_eq _ _ h.1 h.2, meetR_F S]
  · rw [if_neg h, if_neg fun h' => h ⟨es.symm.trans h'.1, et.symm.trans h'.2⟩]
end
end Go.Aw
