/-
  Where points are: the reference's. No condition.
-/
import Derived.Test.YtmkcjbpekejgdaaGreatSeH
set_option linter.unusedSimpArgs false
set_option linter.unusedVariables false
noncomputable section
namespace Go.Aw
set_option maxRecDepth 100000
theorem cross_gt (a b p : Int × Int) : p.1 * (b.2 - a.2) < a.1 * 1 * (b.2 - a.2) + (b.1 - a.1) * (p.2 - a.2 * 1) ↔ 0 < crossI a b p := by
  rw [crossI, Int.mul_one, Int.mul_one, Int.mul_comm p.1, Int.mul_comm a.1, Int.mul_sub (b.2 - a.2) p.1]
  omega
theorem encl_B {a b : Int × Int} (ha : rightS a = true) (hb : rightS b = true) {x y : Int} (hx : 0 ≤ x ∧ x ≤ 10000) (hy : 0 ≤ y ∧ y ≤ 10000) :
    (-100000000 ≤ a.1 * 1 * (b.2 - a.2) ∧ a.1 * 1 * (b.2 - a.2) ≤ 100000000) ∧ (-100000000 ≤ (b.1 - a.1) * (y - a.2 * 1) ∧ (b.1 - a.1) * (y - a.2 * 1) ≤ 100000000) ∧ (-100000000 ≤ x * (b.2 - a.2) ∧ x * (b.2 - a.2) ≤ 100000000) := by
  obtain ⟨a1, a2, a3, a4⟩ := right_low ha
  obtain ⟨b1, b2, b3, b4⟩ := right_low hb
  have m1 := mulB (a := a.1 * 1) (b := b.2 - a.2) (A := 10000) (B := 10000) (by omega) (by omega) (by omega) (by omega)
  have m2 := mulB (a := b.1 - a.1) (b := y - a.2 * 1) (A := 10000) (B := 10000) (by omega) (by omega) (by omega) (by omega)
  have m3 := mulB (a := x) (b := b.2 - a.2) (A := 10000) (B := 10000) (by omega) (by omega) (by omega) (by omega)
  refine ⟨?_, ?_, ?_⟩ <;> omega
def S128 (l : List (Int × Int)) : List Value → Option (Bool × Value)
  | [.int .i64 x, .int .i64 y, .int .i64 d] => some (goodL l && decide (0 ≤ x) && decide (x ≤ 10000) && decide (0 ≤ y) && decide (y ≤ 10000) && decide (d = 1), .bool (inI l (x, y) l.length))
  | _ => none
theorem S128_inv {l : List (Int × Int)} {r : List Value} {v : Value} (hs : S128 l r = some (true, v)) : ∃ x y, r = [iv x, iv y, iv 1] ∧ goodP l ∧ (0 ≤ x ∧ x ≤ 10000) ∧ (0 ≤ y ∧ y ≤ 10000) ∧ v = .bool (inI l (x, y) l.length) := by
  unfold S128 at hs
  split at hs
  · rename_i x y d
    injection hs with hs; injection hs with h1 h2
    simp only [Bool.and_eq_true, decide_eq_true_eq] at h1
    obtain ⟨⟨⟨⟨⟨h3, h4⟩, h5⟩, h6⟩, h7⟩, rfl⟩ := h1
    exact ⟨x, y, rfl, goodL_iff.1 h3, ⟨h4, h5⟩, ⟨h6, h7⟩, h2.symm⟩
  · cases hs
def e128 (l : List (Int × Int)) (c : Nat) (x y : Int) (j : Int) (b : Bool) : List (Nat × Value) := [(0, .slice (some ⟨0, 0, none⟩) l.length c), (1, iv x), (2, iv y), (3, iv 1), (9, .bool b), (10, iv j)]
def X128 : Nat × XF := (142, lX elP S128)
attribute [local irreducible] edgeS in
theorem x128 : XOK Go.Proofs.Tryz.prog X128.1 X128.2 := lX_ok elP (body_calls (xl := [X84]) (.cons x84 .nil)) fun l r v hs => by
  obtain ⟨x, y, rfl, hgood, hx, hy, rfl⟩ := S128_inv hs
  refine ⟨rfl, rfl, fun c => ?_⟩
  have h3' := hgood.1
  have h200' := hgood.2.1
  clear hs
  (conv => whnf)
  refine ⟨fun n e h nx => ∃ (i : Nat) (j : Int) (b : Bool), j = i ∧ i ≤ l.length ∧ n = l.length - i ∧ b = inI l (x, y) i ∧ e = e128 l c x y j b ∧ h = hP l ∧ nx = 1, ⟨l.length, ?_⟩, ?_⟩
  · refine Into_id (e0 := e128 l c x y 0 false) (h0 := hP l) (n0 := 1) ⟨0, 0, false, rfl, Nat.zero_le _, rfl, rfl, rfl, rfl, rfl⟩ ?_ ?_ (by decide)
    · unfold e128
      ((repeat' (refine List.forall_mem_cons.2 ⟨⟨rfl, ?_⟩, ?_⟩; (first | exact scT_g rfl | exact ⟨by decide, rfl⟩ | exact ⟨by decide, fun h => (by cases h)⟩))); exact fun _ h => (by cases h))
    · unfold hP
      ((repeat' (refine List.forall_mem_cons.2 ⟨⟨Nat.le_of_ble_eq_true rfl, _, rfl, ?_⟩, ?_⟩; (first | exact ObjRen_g (flat_g _ _) | exact ObjRen_j rfl rfl))); exact fun _ h => (by cases h))
  · rintro n e h nx ⟨i, j, b, hj, hi, rfl, hb, rfl, rfl, rfl⟩
    unfold e128 hP
    ((conv => whnf); refine bm (fun g1 => ?_) (fun g1 => ?_))
    · have hlt : i < l.length := by simp [cfgS, std] at g1; omega
      have hji : j.toNat = i := by omega
      have re := edge_right hgood hlt
      have w1 := right_low (right_two re).1
      have w2 := right_low (right_two re).2.1
      have B1 := encl_B (right_two re).1 (right_two re).2.1 hx hy
      have B2 := encl_B (right_two re).2.1 (right_two re).1 hx hy
      have G1 := cross_gt (edgeS l i).1 (edgeS l i).2 (x, y)
      have G2 := cross_gt (edgeS l i).2 (edgeS l i).1 (x, y)
      simp only at G1 G2
      (conv => whnf)
      refine ⟨l, LsAt_own elP rfl, ?_⟩
      ((conv => whnf); refine bm (fun g2 => ?_) (fun g2 => ?_))
      · repeat' ((conv => whnf); refine bm (fun g => ?_) (fun g => ?_))
        all_goals (conv => whnf)
        all_goals (simp only [cA_lt, cA_le, cA_eqB, cA_add, cA_sub, cA_mul, cA_fits, cA_notB, fitsK, beq_iff_eq, beq_eq_false_iff_ne, ne_eq, Bool.not_eq_true, Bool.not_eq_false, decide_eq_true_eq, decide_eq_false_iff_not, pEta, sEta, hji, G1, G2] at *)
        all_goals first
              | (have hh : hitE (edgeS l i) (x, y) = true := by
                   simp [hitE, loY, hiY, *] <;> omega
                 refine ⟨l.length - (i + 1), by omega, ?_⟩
                 refine Into_id (e0 := e128 l c x y (j + 1) (!b)) (h0 := hP l) (n0 := 1) ⟨i + 1, j + 1, (!b), by omega, hlt, rfl, ?_, rfl, rfl, rfl⟩ ?_ ?_ (by decide)
                 · rw [inI, ← hb, hh]
                   cases b <;> rfl
                 · unfold e128
                   ((repeat' (refine List.forall_mem_cons.2 ⟨⟨rfl, ?_⟩, ?_⟩; (first | exact scT_g rfl | exact ⟨by decide, rfl⟩ | exact ⟨by decide, fun h => (by cases h)⟩))); exact fun _ h => (by cases h))
                 · unfold hP
                   ((repeat' (refine List.forall_mem_cons.2 ⟨⟨Nat.le_of_ble_eq_true rfl, _, rfl, ?_⟩, ?_⟩; (first | exact ObjRen_g (flat_g _ _) | exact ObjRen_j rfl rfl))); exact fun _ h => (by cases h))
                 done)
              | (have hh : hitE (edgeS l i) (x, y) = false := by
                   simp [hitE, loY, hiY, *] <;> omega
                 refine ⟨l.length - (i + 1), by omega, ?_⟩
                 refine Into_id (e0 := e128 l c x y (j + 1) b) (h0 := hP l) (n0 := 1) ⟨i + 1, j + 1, b, by omega, hlt, rfl, ?_, rfl, rfl, rfl⟩ ?_ ?_ (by decide)
                 · rw [inI, ← hb, hh]
                   cases b <;> rfl
                 · unfold e128
                   ((repeat' (refine List.forall_mem_cons.2 ⟨⟨rfl, ?_⟩, ?_⟩; (first | exact scT_g rfl | exact ⟨by decide, rfl⟩ | exact ⟨by decide, fun h => (by cases h)⟩))); exact fun _ h => (by cases h))
                 · unfold hP
                   ((repeat' (refine List.forall_mem_cons.2 ⟨⟨Nat.le_of_ble_eq_true rfl, _, rfl, ?_⟩, ?_⟩; (first | exact ObjRen_g (flat_g _ _) | exact ObjRen_j rfl rfl))); exact fun _ h => (by cases h))
                 done)
              | (exfalso; simp only [Bool.and_eq_false_iff, decide_eq_false_iff_not] at *; omega)
              | trace_state
      · exfalso; simp only [Bool.and_eq_false_iff, decide_eq_false_iff_not] at g2; omega
    · have hge : i = l.length := by simp [cfgS, std] at g1; omega
      subst hge
      (conv => whnf)
      rw [← hb]
end Go.Aw
