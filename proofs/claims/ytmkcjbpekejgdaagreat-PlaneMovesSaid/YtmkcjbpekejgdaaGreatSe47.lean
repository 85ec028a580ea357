/-
  Greatest divisors and fractions: both. No condition.
-/
import Derived.Test.YtmkcjbpekejgdaaGreatSe30
set_option linter.unusedSimpArgs false
set_option linter.unusedVariables false
noncomputable section
namespace Go.Aw
set_option maxRecDepth 100000
def gcdV (a b : Int) : Int := (Int.gcd a b : Nat)
theorem gcd_step {x y : Int} (h : y ≠ 0) : Int.gcd y (x.tmod y) = Int.gcd x y := by
  unfold Int.gcd
  rw [Int.natAbs_tmod, Nat.gcd_comm, ← Nat.gcd_rec, Nat.gcd_comm]
theorem tmod_small {x y : Int} (h : y ≠ 0) : (x.tmod y).natAbs < y.natAbs := by
  rw [Int.natAbs_tmod]
  exact Nat.mod_lt _ (by omega)
def bigI (n : Int) : Bool := decide (-1000000000000000 ≤ n) && decide (n ≤ 1000000000000000)
def e121 (x y : Int) : List (Nat × Value) := [(0, iv x), (1, iv y)]
theorem cA_max' (a b : Int) : cfgS.A.max a b = mx a b := rfl
def X121 : Nat × XF := (158, gX (s2 cI cI fun a b => (bigI a && bigI b, iv (gcdV a b))))
attribute [local irreducible] gcdV in
theorem x121 : XOK Go.Proofs.Tryz.prog X121.1 X121.2 := x2 cI cI (xl := []) .nil (fun _ _ => rfl) fun a b hp => by
  simp only [bigI, Bool.and_eq_true, decide_eq_true_eq] at hp
  unfold Does1
  (conv => whnf)
  refine ⟨fun n e h nx => ∃ (x y : Int), n = y.natAbs ∧ gcdV x y = gcdV a b ∧ (-1000000000000000 ≤ x ∧ x ≤ 1000000000000000) ∧ (-1000000000000000 ≤ y ∧ y ≤ 1000000000000000) ∧ e = e121 x y ∧ h = [] ∧ nx = 0, ⟨b.natAbs, ?_⟩, ?_⟩
  · refine Into_id (e0 := e121 a b) (h0 := []) (n0 := 0) ⟨a, b, rfl, rfl, hp.1, hp.2, rfl, rfl, rfl⟩ ?_ ?_ (Nat.le_refl _)
    · unfold e121
      ((repeat' (refine List.forall_mem_cons.2 ⟨⟨rfl, ?_⟩, ?_⟩; (first | exact scT_g rfl | exact ⟨by decide, rfl⟩ | exact ⟨by decide, fun h => (by cases h)⟩))); exact fun _ h => (by cases h))
    · exact fun _ h => by cases h
  · rintro n e h nx ⟨x, y, rfl, hg, hx, hy, rfl, rfl, rfl⟩
    unfold e121
    ((conv => whnf); refine bm (fun g1 => ?_) (fun g1 => ?_))
    · have hy0 : y ≠ 0 := by simpa only [cA_notB, cA_eq, Bool.not_eq_true', decide_eq_false_iff_not] using g1
      ((conv => whnf); refine bm (fun g2 => ?_) (fun g2 => ?_))
      · (conv => whnf)
        have hs := tmod_small (x := x) hy0
        refine ⟨(x.tmod y).natAbs, hs, ?_⟩
        refine Into_id (e0 := e121 y (x.tmod y)) (h0 := []) (n0 := 0) ⟨y, x.tmod y, rfl, ?_, hy, by omega, rfl, rfl, rfl⟩ ?_ ?_ (Nat.le_refl _)
        · rw [← hg]
          unfold gcdV
          rw [gcd_step hy0]
        · unfold e121
          ((repeat' (refine List.forall_mem_cons.2 ⟨⟨rfl, ?_⟩, ?_⟩; (first | exact scT_g rfl | exact ⟨by decide, rfl⟩ | exact ⟨by decide, fun h => (by cases h)⟩))); exact fun _ h => (by cases h))
        · exact fun _ h => by cases h
      · exfalso
        simp only [cA_notB, cA_eq, Bool.not_eq_false', decide_eq_true_eq] at g2
        exact hy0 g2
    · have hy0 : y = 0 := by simpa only [cA_notB, cA_eq, Bool.not_eq_false', decide_eq_true_eq] using g1
      subst hy0
      have hv : mx x (0 - x) = gcdV a b := by
        rw [← hg]
        unfold gcdV mx
        rw [Int.gcd_zero_right]
        split <;> omega
      ((conv => whnf); refine bm (fun g2 => ?_) (fun g2 => ?_))
      · (conv => whnf)
        rw [← hv]
        rfl
      · exfalso; simp only [cA_neg, cA_fits, fitsK, Bool.eq_false_iff, ne_eq, Bool.and_eq_true, decide_eq_true_eq] at g2; omega
def posI (n : Int) : Bool := decide (0 ≤ n)
end Go.Aw
