/-
  Is a point, told by fractions, enclosed: the reference's. No condition.
-/
import Derived.Test.YtmkcjbpekejgdaaGreatSe42
set_option linter.unusedSimpArgs false
set_option linter.unusedVariables false
noncomputable section
namespace Go.Aw
set_option maxRecDepth 100000
def hitT (a b : Int × Int) (x y d : Int) : Bool := decide (a.2 * d ≤ y) && decide (y < b.2 * d) && decide (x * (b.2 - a.2) < a.1 * d * (b.2 - a.2) + (b.1 - a.1) * (y - a.2 * d))
def hitF (e : Sg) (x y d : Int) : Bool := hitT (loY e) (hiY e) x y d
theorem hitF_lo {e : Sg} {x y d : Int} (h : ¬ e.2.2 < e.1.2) : hitF e x y d = hitT e.1 e.2 x y d := by unfold hitF loY hiY; rw [if_neg h, if_neg h]
theorem hitF_hi {e : Sg} {x y d : Int} (h : e.2.2 < e.1.2) : hitF e x y d = hitT e.2 e.1 x y d := by unfold hitF loY hiY; rw [if_pos h, if_pos h]
def inF (l : List (Int × Int)) (x y d : Int) : Nat → Bool
  | 0 => false
  | i + 1 => inF l x y d i != hitF (edgeS l i) x y d
theorem enclF_B {a b : Int × Int} (ha : rightS a = true) (hb : rightS b = true) {x y d : Int} (hx : -4000000000000 ≤ x ∧ x ≤ 4000000000000) (hy : -4000000000000 ≤ y ∧ y ≤ 4000000000000) (hd : 0 < d ∧ d ≤ 200000000) :
    (-2000000000000 ≤ a.2 * d ∧ a.2 * d ≤ 2000000000000) ∧ (-2000000000000 ≤ a.1 * d ∧ a.1 * d ≤ 2000000000000) ∧ (-20000000000000000 ≤ a.1 * d * (b.2 - a.2) ∧ a.1 * d * (b.2 - a.2) ≤ 20000000000000000) ∧ (-60000000000000000 ≤ (b.1 - a.1) * (y - a.2 * d) ∧ (b.1 - a.1) * (y - a.2 * d) ≤ 60000000000000000) ∧ (-40000000000000000 ≤ x * (b.2 - a.2) ∧ x * (b.2 - a.2) ≤ 40000000000000000) := by
  obtain ⟨a1, a2, a3, a4⟩ := right_low ha
  obtain ⟨b1, b2, b3, b4⟩ := right_low hb
  have m1 := mulB (a := a.2) (b := d) (A := 10000) (B := 200000000) (by omega) (by omega) (by omega) (by omega)
  have m2 := mulB (a := a.1) (b := d) (A := 10000) (B := 200000000) (by omega) (by omega) (by omega) (by omega)
  have m3 := mulB (a := a.1 * d) (b := b.2 - a.2) (A := 2000000000000) (B := 10000) (by omega) (by omega) (by omega) (by omega)
  have m4 := mulB (a := b.1 - a.1) (b := y - a.2 * d) (A := 10000) (B := 6000000000000) (by omega) (by omega) (by omega) (by omega)
  have m5 := mulB (a := x) (b := b.2 - a.2) (A := 4000000000000) (B := 10000) (by omega) (by omega) (by omega) (by omega)
  refine ⟨?_, ?_, ?_, ?_, ?_⟩ <;> omega
def SF4 (l : List (Int × Int)) : List Value → Option (Bool × Value)
  | [.int .i64 x, .int .i64 y, .int .i64 d] => some (goodL l && decide (-4000000000000 ≤ x) && decide (x ≤ 4000000000000) && decide (-4000000000000 ≤ y) && decide (y ≤ 4000000000000) && decide (0 < d) && decide (d ≤ 200000000), .bool (inF l x y d l.length))
  | _ => none
theorem SF4_inv {l : List (Int × Int)} {r : List Value} {v : Value} (hs : SF4 l r = some (true, v)) : ∃ x y d, r = [iv x, iv y, iv d] ∧ goodP l ∧ (-4000000000000 ≤ x ∧ x ≤ 4000000000000) ∧ (-4000000000000 ≤ y ∧ y ≤ 4000000000000) ∧ (0 < d ∧ d ≤ 200000000) ∧ v = .bool (inF l x y d l.length) := by
  unfold SF4 at hs
  split at hs
  · rename_i x y d
    injection hs with hs; injection hs with h1 h2
    simp only [Bool.and_eq_true, decide_eq_true_eq] at h1
    obtain ⟨⟨⟨⟨⟨⟨h3, h4⟩, h5⟩, h6⟩, h7⟩, h8⟩, h9⟩ := h1
    exact ⟨x, y, d, rfl, goodL_iff.1 h3, ⟨h4, h5⟩, ⟨h6, h7⟩, ⟨h8, h9⟩, h2.symm⟩
  · cases hs
def eF4 (l : List (Int × Int)) (c : Nat) (x y d : Int) (j : Int) (b : Bool) : List (Nat × Value) := [(0, .slice (some ⟨0, 0, none⟩) l.length c), (1, iv x), (2, iv y), (3, iv d), (9, .bool b), (10, iv j)]
def XF4 : Nat × XF := (142, lX elP SF4)
attribute [local irreducible] edgeS in
theorem xF4 : XOK Go.Proofs.Tryz.prog XF4.1 XF4.2 := lX_ok elP (body_calls (xl := [X84]) (.cons x84 .nil)) fun l r v hs => by
  obtain ⟨x, y, d, rfl, hgood, hx, hy, hd, rfl⟩ := SF4_inv hs
  refine ⟨rfl, rfl, fun c => ?_⟩
  have h3' := hgood.1
  have h200' := hgood.2.1
  clear hs
  (conv => whnf)
  refine ⟨fun n e h nx => ∃ (i : Nat) (j : Int) (b : Bool), j = i ∧ i ≤ l.length ∧ n = l.length - i ∧ b = inF l x y d i ∧ e = eF4 l c x y d j b ∧ h = hP l ∧ nx = 1, ⟨l.length, ?_⟩, ?_⟩
  · refine Into_id (e0 := eF4 l c x y d 0 false) (h0 := hP l) (n0 := 1) ⟨0, 0, false, rfl, Nat.zero_le _, rfl, rfl, rfl, rfl, rfl⟩ ?_ ?_ (by decide)
    · unfold eF4
      ((repeat' (refine List.forall_mem_cons.2 ⟨⟨rfl, ?_⟩, ?_⟩; (first | exact scT_g rfl | exact ⟨by decide, rfl⟩ | exact ⟨by decide, fun h => (by cases h)⟩))); exact fun _ h => (by cases h))
    · unfold hP
      ((repeat' (refine List.forall_mem_cons.2 ⟨⟨Nat.le_of_ble_eq_true rfl, _, rfl, ?_⟩, ?_⟩; (first | exact ObjRen_g (flat_g _ _) | exact ObjRen_j rfl rfl))); exact fun _ h => (by cases h))
  · rintro n e h nx ⟨i, j, b, hj, hi, rfl, hb, rfl, rfl, rfl⟩
    unfold eF4 hP
    ((conv => whnf); refine bm (fun g1 => ?_) (fun g1 => ?_))
    · have hlt : i < l.length := by simp [cfgS, std] at g1; omega
      have hji : j.toNat = i := by omega
      have re := edge_right hgood hlt
      have w1 := right_low (right_two re).1
      have w2 := right_low (right_two re).2.1
      have B1 := enclF_B (right_two re).1 (right_two re).2.1 hx hy hd
      have B2 := enclF_B (right_two re).2.1 (right_two re).1 hx hy hd
      (conv => whnf)
      refine ⟨l, LsAt_own elP rfl, ?_⟩
      ((conv => whnf); refine bm (fun g2 => ?_) (fun g2 => ?_))
      · repeat' ((conv => whnf); refine bm (fun g => ?_) (fun g => ?_))
        all_goals (conv => whnf)
        all_goals (simp only [cA_lt, cA_le, cA_eqB, cA_add, cA_sub, cA_mul, cA_fits, cA_notB, fitsK, beq_iff_eq, beq_eq_false_iff_ne, ne_eq, Bool.not_eq_true, Bool.not_eq_false, decide_eq_true_eq, decide_eq_false_iff_not, pEta, sEta, hji] at *)
        all_goals first
              | (have hh : hitF (edgeS l i) x y d = true := by
                   first | (rw [hitF_lo (by omega)]; unfold hitT; simp only [Bool.and_eq_true, Bool.and_eq_false_iff, decide_eq_true_eq, decide_eq_false_iff_not]; omega) | (rw [hitF_hi (by omega)]; unfold hitT; simp only [Bool.and_eq_true, Bool.and_eq_false_iff, decide_eq_true_eq, decide_eq_false_iff_not]; omega)
                 refine ⟨l.length - (i + 1), by omega, ?_⟩
                 refine Into_id (e0 := eF4 l c x y d (j + 1) (!b)) (h0 := hP l) (n0 := 1) ⟨i + 1, j + 1, (!b), by omega, hlt, rfl, ?_, rfl, rfl, rfl⟩ ?_ ?_ (by decide)
                 · rw [inF, ← hb, hh]
                   cases b <;> rfl
                 · unfold eF4
                   ((repeat' (refine List.forall_mem_cons.2 ⟨⟨rfl, ?_⟩, ?_⟩; (first | exact scT_g rfl | exact ⟨by decide, rfl⟩ | exact ⟨by decide, fun h => (by cases h)⟩))); exact fun _ h => (by cases h))
                 · unfold hP
                   ((repeat' (refine List.forall_mem_cons.2 ⟨⟨Nat.le_of_ble_eq_true rfl, _, rfl, ?_⟩, ?_⟩; (first | exact ObjRen_g (flat_g _ _) | exact ObjRen_j rfl rfl))); exact fun _ h => (by cases h))
                 done)
              | (have hh : hitF (edgeS l i) x y d = false := by
                   first | (rw [hitF_lo (by omega)]; unfold hitT; simp only [Bool.and_eq_true, Bool.and_eq_false_iff, decide_eq_true_eq, decide_eq_false_iff_not]; omega) | (rw [hitF_hi (by omega)]; unfold hitT; simp only [Bool.and_eq_true, Bool.and_eq_false_iff, decide_eq_true_eq, decide_eq_false_iff_not]; omega)
                 refine ⟨l.length - (i + 1), by omega, ?_⟩
                 refine Into_id (e0 := eF4 l c x y d (j + 1) b) (h0 := hP l) (n0 := 1) ⟨i + 1, j + 1, b, by omega, hlt, rfl, ?_, rfl, rfl, rfl⟩ ?_ ?_ (by decide)
                 · rw [inF, ← hb, hh]
                   cases b <;> rfl
                 · unfold eF4
                   ((repeat' (refine List.forall_mem_cons.2 ⟨⟨rfl, ?_⟩, ?_⟩; (first | exact scT_g rfl | exact ⟨by decide, rfl⟩ | exact ⟨by decide, fun h => (by cases h)⟩))); exact fun _ h => (by cases h))
                 · unfold hP
                   ((repeat' (refine List.forall_mem_cons.2 ⟨⟨Nat.le_of_ble_eq_true rfl, _, rfl, ?_⟩, ?_⟩; (first | exact ObjRen_g (flat_g _ _) | exact ObjRen_j rfl rfl))); exact fun _ h => (by cases h))
                 done)
              | (exfalso; simp only [Bool.and_eq_false_iff, decide_eq_false_iff_not] at *; omega)
              | trace_state
      · exfalso; simp only [Bool.and_eq_false_iff, decide_eq_false_iff_not] at g2; omega
    · have hge : i = l.length := by simp [cfgS, std] at g1; omega
      subst hge
      (conv => whnf)
      rw [← hb]
end Go.Aw
