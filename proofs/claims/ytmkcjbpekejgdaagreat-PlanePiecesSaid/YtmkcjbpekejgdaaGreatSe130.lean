/-
  Pieces of segments: their lengths, and the ends of the segments. Plain. No condition.
-/
import Derived.Test.YtmkcjbpekejgdaaGreatSe129
set_option linter.unusedSimpArgs false
set_option linter.unusedVariables false
namespace Go.Aw
def sumG : List Sg → Int
  | [] => 0
  | s :: r => distS s.1 s.2 + sumG r
theorem sumG_app : ∀ (l m : List Sg), sumG (l ++ m) = sumG l + sumG m
  | [], m => by unfold sumG; simp [sumG]
  | s :: r, m => by
    have := sumG_app r m
    show distS s.1 s.2 + sumG (r ++ m) = distS s.1 s.2 + sumG r + sumG m
    omega
theorem sumG_perm {l m : List Sg} (h : l.Perm m) : sumG l = sumG m := by
  induction h with
  | nil => rfl
  | cons x _ ih => show distS _ _ + _ = distS _ _ + _; rw [ih]
  | swap x y l => show distS _ _ + (distS _ _ + _) = distS _ _ + (distS _ _ + _); omega
  | trans _ _ h1 h2 => exact h1.trans h2
theorem distS_sw (a b : Int × Int) : distS a b = distS b a := by
  unfold distS mx
  split <;> split <;> split <;> split <;> omega
/-- Along a line lengths add up. -/
theorem dist_add {a b c d e : Int × Int} (hab : lessB a b = true) (hcd : d = c ∨ lessB c d = true) (hde : e = d ∨ lessB d e = true) (lc : crossI a b c = 0) (ld : crossI a b d = 0) (le : crossI a b e = 0) : distS c d + distS d e = distS c e := by
  have key : ∀ {ux uy wx wy : Int}, (0 < ux ∨ (ux = 0 ∧ 0 < uy)) → (0 < wx ∨ (wx = 0 ∧ 0 < wy) ∨ (wx = 0 ∧ wy = 0)) → ux * wy = uy * wx → 0 ≤ wx ∧ ((0 ≤ uy ∧ 0 ≤ wy) ∨ (uy < 0 ∧ wy ≤ 0)) := by
    intro ux uy wx wy hu hw hp
    rcases hw with hw | ⟨hw, hw2⟩ | ⟨hw, hw2⟩
    · refine ⟨by omega, ?_⟩
      rcases hu with hu | ⟨hu, hu2⟩
      · rcases Int.lt_or_le uy 0 with h | h
        · right
          refine ⟨h, ?_⟩
          have := Int.mul_neg_of_neg_of_pos h hw
          rw [← hp] at this
          have k := (mulpos_iff hu (b := wy)).2.1 this
          omega
        · left
          refine ⟨h, ?_⟩
          have := Int.mul_nonneg h (by omega : 0 ≤ wx)
          rw [← hp] at this
          rcases Int.lt_or_le wy 0 with h2 | h2
          · have k := Int.mul_neg_of_pos_of_neg hu h2
            omega
          · exact h2
      · exfalso
        rw [hu, Int.zero_mul] at hp
        have := Int.mul_pos hu2 hw
        omega
    · refine ⟨by omega, ?_⟩
      rcases hu with hu | ⟨hu, hu2⟩
      · exfalso
        rw [hw, Int.mul_zero] at hp
        have := Int.mul_pos hu hw2
        omega
      · left; omega
    · refine ⟨by omega, ?_⟩
      omega
  have hu := lex_sub.1 hab
  have k1 := key (wx := d.1 - c.1) (wy := d.2 - c.2) hu (by
    rcases hcd with rfl | h
    · omega
    · have := lex_sub.1 h; omega) (by unfold crossI at lc ld; grind)
  have k2 := key (wx := e.1 - d.1) (wy := e.2 - d.2) hu (by
    rcases hde with rfl | h
    · omega
    · have := lex_sub.1 h; omega) (by unfold crossI at le ld; grind)
  unfold distS mx
  split <;> split <;> split <;> split <;> split <;> split <;> omega
section
variable {l : List Sg} (hr : l.all rightG = true)
include hr
theorem sum_pc {j : Nat} (hj : j < l.length) : ∀ m, m + 1 ≤ (stD l (atS l j)).length → sumG (pcI (stD l (atS l j)) m) = distS (at2 (stD l (atS l j)) 0) (at2 (stD l (atS l j)) m) := by
  obtain ⟨a, b, he, hab, hs, ra, rb⟩ := ends_two (all_atS hr hj)
  intro m
  induction m with
  | zero =>
    intro _
    show (0 : Int) = _
    unfold distS mx
    split <;> split <;> omega
  | succ m ih =>
    intro hm
    rw [pcI_s, sumG_app, ih (by omega)]
    have l0 := (stD_in he hab hs (at_mem (show 0 < (stD l (atS l j)).length by omega))).1
    have l1 := (stD_in he hab hs (at_mem (show m < (stD l (atS l j)).length by omega))).1
    have l2 := (stD_in he hab hs (at_mem (show m + 1 < (stD l (atS l j)).length by omega))).1
    have e : sumG [(at2 (stD l (atS l j)) m, at2 (stD l (atS l j)) (m + 1))] = distS (at2 (stD l (atS l j)) m) (at2 (stD l (atS l j)) (m + 1)) := Int.add_zero _
    rw [e]
    refine dist_add hab ?_ (.inr (stD_lt (by omega) (by omega))) l0 l1 l2
    rcases Nat.eq_zero_or_pos m with rfl | h
    · exact .inl rfl
    · exact .inr (stD_lt h (by omega))
theorem sum_out : ∀ i, i ≤ l.length → sumG (outS l i) = sumG (l.take i)
  | 0, _ => by rw [outS_0, List.take_zero]
  | i + 1, hi => by
    have hj : i < l.length := by omega
    obtain ⟨a, b, he, hab, hs, ra, rb⟩ := ends_two (all_atS hr hj)
    obtain ⟨h2, h0, hl⟩ := stD_ends (l := l) he hab hs
    have e1 : sumG [atS l i] = distS a b := by
      show distS _ _ + 0 = _
      rcases hs with h | h <;> rw [h]
      · show distS a b + 0 = _; omega
      · show distS b a + 0 = _; rw [distS_sw b a]; omega
    rw [outS_s, sumG_app, sum_out i (by omega), sum_pc hr hj _ (by omega), h0, hl]
    have e2 : l.take (i + 1) = l.take i ++ [atS l i] := by rw [atS_eq hj, List.take_append_getElem hj]
    rw [e2, sumG_app, e1]
omit hr in
theorem pc_mem {D : List (Int × Int)} {x : Sg} : ∀ {m}, x ∈ pcI D m ↔ ∃ k, k < m ∧ x = (at2 D k, at2 D (k + 1))
  | 0 => ⟨fun h => absurd h List.not_mem_nil, fun ⟨k, h, _⟩ => absurd h (Nat.not_lt_zero k)⟩
  | m + 1 => by
    rw [pcI_s, List.mem_append, pc_mem (m := m), List.mem_singleton]
    constructor
    · rintro (⟨k, hk, e⟩ | e)
      · exact ⟨k, by omega, e⟩
      · exact ⟨m, by omega, e⟩
    · rintro ⟨k, hk, e⟩
      by_cases h : k = m
      · subst h; exact .inr e
      · exact .inl ⟨k, by omega, e⟩
omit hr in
theorem out_mem {x : Sg} : ∀ {i}, x ∈ outS l i ↔ ∃ j k, j < i ∧ k + 1 < (stD l (atS l j)).length ∧ x = (at2 (stD l (atS l j)) k, at2 (stD l (atS l j)) (k + 1))
  | 0 => ⟨fun h => absurd h List.not_mem_nil, fun ⟨j, _, h, _⟩ => absurd h (Nat.not_lt_zero j)⟩
  | i + 1 => by
    rw [outS_s, List.mem_append, out_mem (i := i), pc_mem]
    constructor
    · rintro (⟨j, k, hj, hk, e⟩ | ⟨k, hk, e⟩)
      · exact ⟨j, k, by omega, hk, e⟩
      · exact ⟨i, k, by omega, by omega, e⟩
    · rintro ⟨j, k, hj, hk, e⟩
      by_cases h : j = i
      · subst h; exact .inr ⟨k, by omega, e⟩
      · exact .inl ⟨j, k, by omega, hk, e⟩
omit hr in
theorem pc_nodup {j : Nat} (hj : j < l.length) : ∀ m, m + 1 ≤ (stD l (atS l j)).length → (pcI (stD l (atS l j)) m).Nodup := by
  intro m
  induction m with
  | zero => intro _; exact List.nodup_nil
  | succ m ih =>
    intro hm
    rw [pcI_s, List.nodup_append]
    refine ⟨ih (by omega), by simp, fun x hx y hy e => ?_⟩
    rw [List.mem_singleton] at hy
    subst hy e
    obtain ⟨k, hk, e⟩ := pc_mem.1 hx
    injection e with e1 e2
    have := stD_lt (l := l) (s := atS l j) hk (by omega)
    rw [e1] at this
    exact less_irr this
theorem out_nodup (hno : scanI l l.length 0 = none) : ∀ i, i ≤ l.length → (outS l i).Nodup
  | 0, _ => List.nodup_nil
  | i + 1, hi => by
    have hj : i < l.length := by omega
    obtain ⟨a, b, he, hab, hs, ra, rb⟩ := ends_two (all_atS hr hj)
    obtain ⟨h2, -, -⟩ := stD_ends (l := l) he hab hs
    rw [outS_s, List.nodup_append]
    refine ⟨out_nodup hno i (by omega), pc_nodup hj _ (by omega), fun x hx y hy e => ?_⟩
    subst e
    obtain ⟨j, k, hj', hk, e1⟩ := out_mem.1 hx
    obtain ⟨m, hm, e2⟩ := pc_mem.1 hy
    obtain ⟨a1, b1, P⟩ := piece_of hr (show j < l.length by omega) hk
    obtain ⟨a2, b2, Q⟩ := piece_of hr hj (show m + 1 < (stD l (atS l i)).length by omega)
    exact piece_ne hr hno P Q (by omega) (e1.symm.trans e2)
/-- The pieces, put in order: their lengths are those of the segments. -/
theorem sum_ded (hno : scanI l l.length 0 = none) : sumG (dedG (outS l l.length)) = sumG l := by
  have hp : (dedG (outS l l.length)).Perm (outS l l.length) := by
    refine (List.perm_ext_iff_of_nodup ?_ (out_nodup hr hno _ (Nat.le_refl _))).2 fun x => dedG_mem
    refine List.Pairwise.imp (fun {a b} h e => ?_) (dedG_asc (outS l l.length))
    subst e
    rw [lessG_ir] at h
    cases h
  rw [sumG_perm hp, sum_out hr _ (Nat.le_refl _), List.take_length]
theorem ded_meet (hno : scanI l l.length 0 = none) {x y : Sg} (hx : x ∈ dedG (outS l l.length)) (hy : y ∈ dedG (outS l l.length)) (hne : x ≠ y) : MeetV x y = 0 ∨ MeetV x y = 1 := by
  obtain ⟨j, k, hj, hk, e1⟩ := out_mem.1 (dedG_mem.1 hx)
  obtain ⟨i, m, hi, hm, e2⟩ := out_mem.1 (dedG_mem.1 hy)
  obtain ⟨a1, b1, P⟩ := piece_of hr hj hk
  obtain ⟨a2, b2, Q⟩ := piece_of hr hi hm
  subst e1 e2
  unfold MeetV
  rw [if_pos ⟨P.right, Q.right⟩]
  exact piece_meet hr hno P Q hne
theorem ded_right {x : Sg} (hx : x ∈ dedG (outS l l.length)) : rightS x.1 = true ∧ rightS x.2 = true := by
  obtain ⟨j, k, hj, hk, e1⟩ := out_mem.1 (dedG_mem.1 hx)
  obtain ⟨a1, b1, P⟩ := piece_of hr hj hk
  subst e1
  exact ⟨P.rc, P.rd⟩
theorem ded_ends {i : Nat} (hi : i < l.length) : (∃ y ∈ dedG (outS l l.length), (atS l i).1 = y.1 ∨ (atS l i).1 = y.2) ∧ ∃ y ∈ dedG (outS l l.length), (atS l i).2 = y.1 ∨ (atS l i).2 = y.2 := by
  obtain ⟨a, b, he, hab, hs, ra, rb⟩ := ends_two (all_atS hr hi)
  obtain ⟨h2, h0, hl⟩ := stD_ends (l := l) he hab hs
  have ha : ∃ y ∈ dedG (outS l l.length), a = y.1 ∨ a = y.2 := ⟨(at2 (stD l (atS l i)) 0, at2 (stD l (atS l i)) 1), dedG_mem.2 (out_mem.2 ⟨i, 0, hi, by omega, rfl⟩), .inl h0.symm⟩
  have hb : ∃ y ∈ dedG (outS l l.length), b = y.1 ∨ b = y.2 := ⟨(at2 (stD l (atS l i)) ((stD l (atS l i)).length - 2), at2 (stD l (atS l i)) ((stD l (atS l i)).length - 2 + 1)), dedG_mem.2 (out_mem.2 ⟨i, (stD l (atS l i)).length - 2, hi, by omega, rfl⟩), .inr (by
    show b = at2 (stD l (atS l i)) ((stD l (atS l i)).length - 2 + 1)
    rw [show (stD l (atS l i)).length - 2 + 1 = (stD l (atS l i)).length - 1 by omega, hl])⟩
  rcases hs with h | h <;> rw [h]
  · exact ⟨ha, hb⟩
  · exact ⟨hb, ha⟩
end
theorem lenS_two {a b : Int × Int} (ha : rightS a = true) (hb : rightS b = true) : lenS [a, b] = distS a b := by
  unfold lenS
  rw [if_pos ⟨by show 2 ≤ 400; decide, by simp [ha, hb]⟩]
  show (0 + 0 : Int) + distS a b = _
  omega
end Go.Aw
