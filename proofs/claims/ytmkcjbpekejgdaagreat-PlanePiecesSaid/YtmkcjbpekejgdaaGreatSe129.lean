/-
  Pieces of segments: how they meet. Plain. No condition.
-/
import Derived.Test.YtmkcjbpekejgdaaGreatSe119
import Derived.Test.YtmkcjbpekejgdaaGreatSeL
set_option linter.unusedSimpArgs false
set_option linter.unusedVariables false
namespace Go.Aw
theorem mulpos_iff {a b : Int} (ha : 0 < a) : (0 < a * b ↔ 0 < b) ∧ (a * b < 0 ↔ b < 0) := by
  rcases Int.lt_trichotomy b 0 with h1 | h1 | h1
  · have := Int.mul_neg_of_pos_of_neg ha h1
    omega
  · subst h1; rw [Int.mul_zero]; omega
  · have := Int.mul_pos ha h1
    omega
/-- Ways in one direction. -/
theorem par_sign {ux uy wx wy vx vy : Int} (hu : 0 < ux ∨ (ux = 0 ∧ 0 < uy)) (hw : 0 < wx ∨ (wx = 0 ∧ 0 < wy)) (hp : ux * wy = uy * wx) :
    (0 < ux * vy - uy * vx ↔ 0 < wx * vy - wy * vx) ∧ (ux * vy - uy * vx < 0 ↔ wx * vy - wy * vx < 0) := by
  rcases hu with hu | ⟨hu, hu2⟩
  · rcases hw with hw | ⟨hw, hw2⟩
    · have e : ux * (wx * vy - wy * vx) = wx * (ux * vy - uy * vx) := by grind
      have k1 := mulpos_iff hu (b := wx * vy - wy * vx)
      have k2 := mulpos_iff hw (b := ux * vy - uy * vx)
      rw [e] at k1
      exact ⟨k2.1.symm.trans k1.1, k2.2.symm.trans k1.2⟩
    · exfalso
      rw [hw, Int.mul_zero] at hp
      have := Int.mul_pos hu hw2
      omega
  · rcases hw with hw | ⟨hw, hw2⟩
    · exfalso
      rw [hu, Int.zero_mul] at hp
      have := Int.mul_pos hu2 hw
      omega
    · subst hu hw
      simp only [Int.zero_mul, Int.zero_sub]
      have k1 := mulpos_iff hu2 (b := vx)
      have k2 := mulpos_iff hw2 (b := vx)
      omega
theorem lex_sub {a b : Int × Int} : lessB a b = true ↔ (0 < b.1 - a.1 ∨ (b.1 - a.1 = 0 ∧ 0 < b.2 - a.2)) := by
  rw [less_lex]; omega
/-- Two points of a line, in order: what lies to which side of it. -/
theorem side_of {a b c d : Int × Int} (hab : lessB a b = true) (hcd : lessB c d = true) (hc : crossI a b c = 0) (hd : crossI a b d = 0) (p : Int × Int) :
    (0 < crossI a b p ↔ 0 < crossI c d p) ∧ (crossI a b p < 0 ↔ crossI c d p < 0) := by
  have h := par_sign (vx := p.1 - c.1) (vy := p.2 - c.2) (lex_sub.1 hab) (lex_sub.1 hcd) (by unfold crossI at hc hd; grind)
  have e : crossI a b p = (b.1 - a.1) * (p.2 - c.2) - (b.2 - a.2) * (p.1 - c.1) := by unfold crossI at hc ⊢; grind
  rw [e]
  exact h
/-- A piece that lies on both sides of a line is part of a segment that does. -/
theorem ext_side {a b c d e f : Int × Int} (hcd : lessB c d = true) (h1 : c = e ∨ lessB e c = true) (h2 : d = f ∨ lessB d f = true) (he : crossI c d e = 0) (hf : crossI c d f = 0) :
    (crossI a b c < 0 → 0 < crossI a b d → crossI a b e < 0 ∧ 0 < crossI a b f) ∧ (0 < crossI a b c → crossI a b d < 0 → 0 < crossI a b e ∧ crossI a b f < 0) := by
  have e1 : crossI a b d - crossI a b c = -((d.1 - c.1) * (b.2 - a.2) - (d.2 - c.2) * (b.1 - a.1)) := by unfold crossI; grind
  have e2 : crossI a b c - crossI a b e = -((c.1 - e.1) * (b.2 - a.2) - (c.2 - e.2) * (b.1 - a.1)) := by unfold crossI; grind
  have e3 : crossI a b f - crossI a b d = -((f.1 - d.1) * (b.2 - a.2) - (f.2 - d.2) * (b.1 - a.1)) := by unfold crossI; grind
  have k1 : crossI a b e = crossI a b c ∨ ((0 < (d.1 - c.1) * (b.2 - a.2) - (d.2 - c.2) * (b.1 - a.1) ↔ 0 < (c.1 - e.1) * (b.2 - a.2) - (c.2 - e.2) * (b.1 - a.1)) ∧ ((d.1 - c.1) * (b.2 - a.2) - (d.2 - c.2) * (b.1 - a.1) < 0 ↔ (c.1 - e.1) * (b.2 - a.2) - (c.2 - e.2) * (b.1 - a.1) < 0)) := by
    rcases h1 with h1 | h1
    · left; rw [h1]
    · right
      exact par_sign (lex_sub.1 hcd) (lex_sub.1 h1) (by unfold crossI at he; grind)
  have k2 : crossI a b f = crossI a b d ∨ ((0 < (d.1 - c.1) * (b.2 - a.2) - (d.2 - c.2) * (b.1 - a.1) ↔ 0 < (f.1 - d.1) * (b.2 - a.2) - (f.2 - d.2) * (b.1 - a.1)) ∧ ((d.1 - c.1) * (b.2 - a.2) - (d.2 - c.2) * (b.1 - a.1) < 0 ↔ (f.1 - d.1) * (b.2 - a.2) - (f.2 - d.2) * (b.1 - a.1) < 0)) := by
    rcases h2 with h2 | h2
    · left; rw [h2]
    · right
      exact par_sign (lex_sub.1 hcd) (lex_sub.1 h2) (by unfold crossI at hf; grind)
  generalize (d.1 - c.1) * (b.2 - a.2) - (d.2 - c.2) * (b.1 - a.1) = W at *
  generalize (c.1 - e.1) * (b.2 - a.2) - (c.2 - e.2) * (b.1 - a.1) = U at *
  generalize (f.1 - d.1) * (b.2 - a.2) - (f.2 - d.2) * (b.1 - a.1) = V at *
  generalize crossI a b c = C at *
  generalize crossI a b d = D at *
  generalize crossI a b e = E at *
  generalize crossI a b f = F at *
  refine ⟨fun q1 q2 => ?_, fun q1 q2 => ?_⟩
  · have hW : W < 0 := by omega
    constructor
    · rcases k1 with k | k
      · omega
      · have := k.2.1 hW; omega
    · rcases k2 with k | k
      · omega
      · have := k.2.1 hW; omega
  · have hW : 0 < W := by omega
    constructor
    · rcases k1 with k | k
      · omega
      · have := k.1.1 hW; omega
    · rcases k2 with k | k
      · omega
      · have := k.1.1 hW; omega
theorem turn_sg {a b c : Int × Int} : (turnS a b c = 1 ↔ 0 < crossI a b c) ∧ (turnS a b c = -1 ↔ crossI a b c < 0) ∧ (turnS a b c = 0 ↔ crossI a b c = 0) := by
  unfold turnS sgn
  refine ⟨?_, ?_, ?_⟩ <;> (split <;> (try split) <;> omega)
theorem prod_neg {a b c a' b' c' : Int × Int} : turnS a b c * turnS a' b' c' < 0 ↔ (crossI a b c < 0 ∧ 0 < crossI a' b' c') ∨ (0 < crossI a b c ∧ crossI a' b' c' < 0) := by
  have h1 := @turn_sg a b c
  have h2 := @turn_sg a' b' c'
  rcases Int.lt_trichotomy (crossI a b c) 0 with p | p | p <;> rcases Int.lt_trichotomy (crossI a' b' c') 0 with q | q | q
  all_goals
    first
    | rw [h1.1.2 p]
    | rw [h1.2.1.2 p]
    | rw [h1.2.2.2 p]
    first
    | rw [h2.1.2 q]
    | rw [h2.2.1.2 q]
    | rw [h2.2.2.2 q]
    omega
/-- Both ends of the one lie on different sides of the other: they cross. -/
theorem cross3 {s t : Sg} (h1 : turnS s.1 s.2 t.1 * turnS s.1 s.2 t.2 < 0) (h2 : turnS t.1 t.2 s.1 * turnS t.1 t.2 s.2 < 0) : meetS s t = 3 := by
  unfold meetS kindS
  have n0 : ∀ {x y : Int}, x * y < 0 → x ≠ 0 ∧ y ≠ 0 := fun {x y} h => ⟨fun e => by rw [e, Int.zero_mul] at h; omega, fun e => by rw [e, Int.mul_zero] at h; omega⟩
  obtain ⟨a1, a2⟩ := n0 h1
  obtain ⟨b1, b2⟩ := n0 h2
  rw [if_neg (by rintro ⟨e, -⟩; exact a1 e), if_neg (by omega), if_neg (by simp [b1, b2]), if_neg (by simp [b1, b2, a1, a2])]
theorem onR_sorted {c d x : Int × Int} (hc : rightS c = true) (hd : rightS d = true) (hl : lessB c d = true) (h : onR x (c, d) = true) : crossI c d x = 0 ∧ (x = c ∨ lessB c x = true) ∧ (x = d ∨ lessB x d = true) := by
  by_cases h1 : x = c
  · subst h1; exact ⟨by unfold crossI; grind, .inl rfl, .inr hl⟩
  · by_cases h2 : x = d
    · subst h2; exact ⟨by unfold crossI; grind, .inr hl, .inl rfl⟩
    · have h3 : insR x (c, d) = true := by
        unfold insR
        rw [(eqP_f x c).2 h1, (eqP_f x d).2 h2, h]
        rfl
      obtain ⟨k1, k2, k3⟩ := (insR_iff hc hd hl).1 h3
      exact ⟨k1, .inr k2, .inr k3⟩
theorem known_mem {p : Int × Int} : ∀ {l : List (Int × Int)}, knownS p l = false → p ∉ l
  | [], _ => List.not_mem_nil
  | q :: r, h => by
    unfold knownS at h
    rw [Bool.or_eq_false_iff] at h
    intro hm
    rcases List.mem_cons.1 hm with e | hm
    · exact (eqP_f q p).1 h.1 e.symm
    · exact known_mem h.2 hm
theorem addE_nodup {s t : Sg} {out : List (Int × Int)} {p : Int × Int} (h : out.Nodup) : (addE s t out p).Nodup := by
  unfold addE
  split
  · rename_i hh
    have := known_mem hh.2.2
    rw [List.nodup_append]
    refine ⟨h, by simp, fun x hx y hy e => ?_⟩
    rw [List.mem_singleton] at hy
    subst hy e
    exact this hx
  · exact h
theorem endsL_nodup (s t : Sg) : (endsL s t).Nodup := addE_nodup (addE_nodup (addE_nodup (addE_nodup List.nodup_nil)))
theorem scanK_none {l : List Sg} {i : Nat} : ∀ {n k : Nat}, scanK l i n k = none → ∀ q, k ≤ q → q < k + n → hitS (atS l i) (atS l q) = false
  | 0, k, _, q, h1, h2 => absurd h2 (by omega)
  | n + 1, k, h, q, h1, h2 => by
    unfold scanK at h
    split at h
    · cases h
    · rename_i hh
      by_cases hq : q = k
      · subst hq; simpa using hh
      · exact scanK_none h q (by omega) (by omega)
theorem scanI_none {l : List Sg} : ∀ {n i : Nat}, i + n = l.length → scanI l n i = none → ∀ p q, i ≤ p → p < q → q < l.length → hitS (atS l p) (atS l q) = false
  | 0, i, hi, _, p, q, h1, h2, h3 => absurd h3 (by omega)
  | n + 1, i, hi, h, p, q, h1, h2, h3 => by
    unfold scanI at h
    split at h
    · cases h
    · rename_i hh
      by_cases hp : p = i
      · subst hp; exact scanK_none hh q (by omega) (by omega)
      · exact scanI_none (by omega) h p q (by omega) h2 h3
section
variable {l : List Sg} (hr : l.all rightG = true) (hno : scanI l l.length 0 = none)
include hr hno
theorem no_hit {i j : Nat} (hi : i < l.length) (hj : j < l.length) (hij : i ≠ j) : hitS (atS l i) (atS l j) = false := by
  rcases Nat.lt_or_gt_of_ne hij with h | h
  · exact scanI_none (by omega) hno i j (by omega) h hj
  · have h1 := scanI_none (by omega) hno j i (by omega) h hi
    unfold hitS at h1 ⊢
    rw [meet_sym (atS l j) (atS l i) (all_atS hr hj) (all_atS hr hi)]
    exact h1
/-- A segment's ends in order, and how it meets others. -/
theorem meet_norm {i j : Nat} (hi : i < l.length) (hj : j < l.length) (hij : i ≠ j) {a b c d : Int × Int} (h1 : atS l i = (a, b) ∨ atS l i = (b, a)) (h2 : atS l j = (c, d) ∨ atS l j = (d, c)) (r1 : rightG (a, b) = true) (r2 : rightG (c, d) = true) : meetS (a, b) (c, d) ≠ 3 ∧ meetS (a, b) (c, d) ≠ 4 := by
  have h := no_hit hr hno hi hj hij
  have e2 : meetS (atS l i) (atS l j) = meetS (atS l i) (c, d) := by
    rcases h2 with h2 | h2
    · rw [h2]
    · rw [h2]; exact meet_back (atS l i) (c, d) r2
  have e1 : meetS (atS l i) (c, d) = meetS (a, b) (c, d) := by
    have ra := all_atS hr hi
    rw [meet_sym (c, d) (atS l i) r2 ra, meet_sym (c, d) (a, b) r2 r1]
    rcases h1 with h1 | h1
    · rw [h1]
    · rw [h1]; exact meet_back (c, d) (a, b) r1
  unfold hitS at h
  rw [e2, e1] at h
  simp only [Bool.or_eq_false_iff, decide_eq_false_iff_not] at h
  exact h
end
section
variable {l : List Sg} (hr : l.all rightG = true)
include hr
/-- What is known of a piece: the ends of its segment, its own. -/
structure Piece (l : List Sg) (j k : Nat) (a b c d : Int × Int) : Prop where
  hj : j < l.length
  hk : k + 1 < (stD l (atS l j)).length
  he : endsS (atS l j) = (a, b)
  hab : lessB a b = true
  hs : atS l j = (a, b) ∨ atS l j = (b, a)
  ra : rightS a = true
  rb : rightS b = true
  hc : c = at2 (stD l (atS l j)) k
  hd : d = at2 (stD l (atS l j)) (k + 1)
  rc : rightS c = true
  rd : rightS d = true
  hcd : lessB c d = true
  lc : crossI a b c = 0
  ld : crossI a b d = 0
  ac : c = a ∨ lessB a c = true
  db : d = b ∨ lessB d b = true
theorem piece_of {j k : Nat} (hj : j < l.length) (hk : k + 1 < (stD l (atS l j)).length) : ∃ a b, Piece l j k a b (at2 (stD l (atS l j)) k) (at2 (stD l (atS l j)) (k + 1)) := by
  obtain ⟨a, b, he, hab, hs, ra, rb⟩ := ends_two (all_atS hr hj)
  have mc : at2 (stD l (atS l j)) k ∈ stD l (atS l j) := at_mem (by omega)
  have md : at2 (stD l (atS l j)) (k + 1) ∈ stD l (atS l j) := at_mem hk
  obtain ⟨c1, c2, c3⟩ := stD_in he hab hs mc
  obtain ⟨d1, d2, d3⟩ := stD_in he hab hs md
  exact ⟨a, b, hj, hk, he, hab, hs, ra, rb, rfl, rfl, stD_right he hr ra rb mc, stD_right he hr ra rb md, stD_lt (by omega) hk, c1, d1, c2, d3⟩
end
theorem less_le {a b c : Int × Int} (h1 : b = a ∨ lessB a b = true) (h2 : lessB b c = true) : lessB a c = true := by
  rcases h1 with rfl | h1
  · exact h2
  · exact less_tr h1 h2
theorem less_le' {a b c : Int × Int} (h1 : lessB a b = true) (h2 : b = c ∨ lessB b c = true) : lessB a c = true := by
  rcases h2 with rfl | h2
  · exact h1
  · exact less_tr h1 h2
section
variable {l : List Sg} {j k : Nat} {a b c d : Int × Int} (P : Piece l j k a b c d)
include P
theorem Piece.right : rightG (c, d) = true := right_pair P.rc P.rd P.hcd
theorem Piece.right' : rightG (a, b) = true := right_pair P.ra P.rb P.hab
theorem Piece.la : crossI c d a = 0 := line3 P.hab P.lc P.ld (by unfold crossI; grind)
theorem Piece.lb : crossI c d b = 0 := line3 P.hab P.lc P.ld (by unfold crossI; grind)
theorem Piece.endC : ∃ i, i < l.length ∧ (c = (atS l i).1 ∨ c = (atS l i).2) := by
  have mc : c ∈ stD l (atS l j) := by rw [P.hc]; exact at_mem (by have := P.hk; omega)
  rcases (stD_mem P.he).1 mc with e | e | ⟨i, hi, e, -⟩
  · refine ⟨j, P.hj, ?_⟩
    rcases P.hs with h | h <;> rw [h, e]
    · exact .inl rfl
    · exact .inr rfl
  · refine ⟨j, P.hj, ?_⟩
    rcases P.hs with h | h <;> rw [h, e]
    · exact .inr rfl
    · exact .inl rfl
  · exact ⟨i, hi, e⟩
theorem Piece.endD : ∃ i, i < l.length ∧ (d = (atS l i).1 ∨ d = (atS l i).2) := by
  have mc : d ∈ stD l (atS l j) := by rw [P.hd]; exact at_mem P.hk
  rcases (stD_mem P.he).1 mc with e | e | ⟨i, hi, e, -⟩
  · refine ⟨j, P.hj, ?_⟩
    rcases P.hs with h | h <;> rw [h, e]
    · exact .inl rfl
    · exact .inr rfl
  · refine ⟨j, P.hj, ?_⟩
    rcases P.hs with h | h <;> rw [h, e]
    · exact .inr rfl
    · exact .inl rfl
  · exact ⟨i, hi, e⟩
/-- An end that is on a piece is an end of it. -/
theorem Piece.on {x : Int × Int} (hx : ∃ i, i < l.length ∧ (x = (atS l i).1 ∨ x = (atS l i).2)) (ho : onR x (c, d) = true) : x = c ∨ x = d := by
  obtain ⟨o1, o2, o3⟩ := onR_sorted P.rc P.rd P.hcd ho
  rcases o2 with o2 | o2
  · exact .inl o2
  rcases o3 with o3 | o3
  · exact .inr o3
  exfalso
  have hl : crossI a b x = 0 := line3 P.hcd P.la P.lb o1
  have h1 : lessB a x = true := less_le P.ac o2
  have h2 : lessB x b = true := less_le' o3 (P.db.imp (fun h => h) (fun h => h))
  obtain ⟨i, hi, hx⟩ := hx
  have hm : x ∈ stD l (atS l j) := (stD_mem P.he).2 (.inr (.inr ⟨i, hi, hx, (ins_iff P.he P.hab P.hs).2 ⟨hl, h1, h2⟩⟩))
  obtain ⟨q, hq, rfl⟩ := mem_at hm
  have hk := P.hk
  rw [P.hc] at o2
  rw [P.hd] at o3
  rcases Nat.lt_or_ge k q with h | h
  · rcases Nat.lt_or_ge (k + 1) q with h' | h'
    · exact less_irr (less_tr o3 (stD_lt h' hq))
    · have : q = k + 1 := by omega
      subst this
      exact less_irr o3
  · rcases Nat.lt_or_ge q k with h' | h'
    · exact less_irr (less_tr o2 (stD_lt h' (by omega)))
    · have : q = k := by omega
      subst this
      exact less_irr o2
end
section
variable {l : List Sg} (hr : l.all rightG = true) (hno : scanI l l.length 0 = none) {i m j k : Nat} {a b c d a2 b2 c2 d2 : Int × Int} (P : Piece l i m a b c d) (Q : Piece l j k a2 b2 c2 d2)
include hr hno P Q
theorem piece_meet (hne : ((c, d) : Sg) ≠ (c2, d2)) : meetS (c, d) (c2, d2) = 0 ∨ meetS (c, d) (c2, d2) = 1 := by
  rw [meet_eq _ _ P.right Q.right]
  have hcl : ∀ x, x ∈ endsL (c, d) (c2, d2) → (x = c ∨ x = d) ∧ (x = c2 ∨ x = d2) := by
    intro x hx
    obtain ⟨h1, h2, h3⟩ := ends_mem.1 hx
    have he : ∃ i, i < l.length ∧ (x = (atS l i).1 ∨ x = (atS l i).2) := by
      rcases h1 with h | h | h | h
      · rw [h]; exact P.endC
      · rw [h]; exact P.endD
      · rw [h]; exact Q.endC
      · rw [h]; exact Q.endD
    exact ⟨P.on he h2, Q.on he h3⟩
  have hnd := endsL_nodup (c, d) (c2, d2)
  unfold meetR
  split
  · rename_i hE
    split
    · rename_i hx
      exfalso
      obtain ⟨x1, x2⟩ := hx
      by_cases hij : i = j
      · subst hij
        have e1 := P.he
        rw [Q.he] at e1
        injection e1 with e1 e2
        subst e1 e2
        have z1 : crossI c d c2 = 0 := line3 P.hab P.lc P.ld Q.lc
        have z2 : turnS c d c2 = 0 := turn_sg.2.2.2 z1
        have x1' : turnS c d c2 * turnS c d d2 < 0 := x1
        rw [z2, Int.zero_mul] at x1'
        omega
      · have hm := (meet_norm hr hno P.hj Q.hj hij P.hs Q.hs P.right' Q.right').1
        apply hm
        have y1 := prod_neg.1 x1
        have y2 := prod_neg.1 x2
        have s1 := fun p => side_of P.hab P.hcd P.lc P.ld p
        have s2 := fun p => side_of Q.hab Q.hcd Q.lc Q.ld p
        have t1 := ext_side (a := a) (b := b) Q.hcd Q.ac (Q.db.imp Eq.symm id |>.imp Eq.symm id) Q.la Q.lb
        have t2 := ext_side (a := a2) (b := b2) P.hcd P.ac (P.db.imp Eq.symm id |>.imp Eq.symm id) P.la P.lb
        refine cross3 (prod_neg.2 ?_) (prod_neg.2 ?_)
        · rcases y1 with ⟨u, v⟩ | ⟨u, v⟩
          · exact .inl (t1.1 ((s1 _).2.2 u) ((s1 _).1.2 v))
          · exact .inr (t1.2 ((s1 _).1.2 u) ((s1 _).2.2 v))
        · rcases y2 with ⟨u, v⟩ | ⟨u, v⟩
          · exact .inl (t2.1 ((s2 _).2.2 u) ((s2 _).1.2 v))
          · exact .inr (t2.2 ((s2 _).1.2 u) ((s2 _).2.2 v))
    · exact .inl rfl
  · rename_i p hE
    obtain ⟨h1, h2⟩ := hcl p (by rw [hE]; exact List.mem_singleton.2 rfl)
    rw [if_pos ⟨h1.imp (eqP_iff _ _).2 (eqP_iff _ _).2, h2.imp (eqP_iff _ _).2 (eqP_iff _ _).2⟩]
    exact .inr rfl
  · rename_i p q r hE
    exfalso
    rw [hE] at hnd
    have hpq : p ≠ q := fun e => (List.nodup_cons.1 hnd).1 (by rw [e]; exact .head _)
    obtain ⟨h1, h2⟩ := hcl p (by rw [hE]; exact .head _)
    obtain ⟨h3, h4⟩ := hcl q (by rw [hE]; exact .tail _ (.head _))
    have hcd := P.hcd
    have hcd2 := Q.hcd
    apply hne
    rcases h1 with h1 | h1 <;> rcases h3 with h3 | h3 <;> rcases h2 with h2 | h2 <;> rcases h4 with h4 | h4
    all_goals first
      | exact absurd (h1.trans h3.symm) hpq
      | exact absurd (h2.trans h4.symm) hpq
      | exact Prod.ext (h1.symm.trans h2) (h3.symm.trans h4)
      | exact Prod.ext (h3.symm.trans h4) (h1.symm.trans h2)
      | (exfalso
         rw [← h1, ← h3] at hcd
         rw [← h2, ← h4] at hcd2
         exact less_irr (less_tr hcd hcd2))
theorem piece_ne (hij : i ≠ j) : ((c, d) : Sg) ≠ (c2, d2) := by
  intro e
  injection e with e1 e2
  subst e1 e2
  apply (meet_norm hr hno P.hj Q.hj hij P.hs Q.hs P.right' Q.right').2
  have ea : crossI a b a2 = 0 := line3 P.hcd P.la P.lb Q.la
  have eb : crossI a b b2 = 0 := line3 P.hcd P.la P.lb Q.lb
  unfold meetS
  rw [if_pos ⟨turn_sg.2.2.2 ea, turn_sg.2.2.2 eb⟩]
  have hlow : lowS (a, b) (a2, b2) = a ∨ lowS (a, b) (a2, b2) = a2 := by
    unfold lowS
    rw [ends_less P.hab, ends_less Q.hab]
    split
    · exact .inr rfl
    · exact .inl rfl
  have hhigh : highS (a, b) (a2, b2) = b ∨ highS (a, b) (a2, b2) = b2 := by
    unfold highS
    rw [ends_less P.hab, ends_less Q.hab]
    split
    · exact .inr rfl
    · exact .inl rfl
  have h1 : c = lowS (a, b) (a2, b2) ∨ lessB (lowS (a, b) (a2, b2)) c = true := by
    rcases hlow with e | e <;> rw [e]
    · exact P.ac
    · exact Q.ac
  have h2 : d = highS (a, b) (a2, b2) ∨ lessB d (highS (a, b) (a2, b2)) = true := by
    rcases hhigh with e | e <;> rw [e]
    · exact P.db
    · exact Q.db
  have h3 := less_le h1 (less_le' P.hcd h2)
  have h4 := (ordS_lt _ _).2 h3
  have h5 := ordS_low (lowS (a, b) (a2, b2)) (highS (a, b) (a2, b2))
  have h6 : ordS (lowS (a, b) (a2, b2)) (highS (a, b) (a2, b2)) = -1 := by omega
  rw [h6]
  rfl
end
end Go.Aw
