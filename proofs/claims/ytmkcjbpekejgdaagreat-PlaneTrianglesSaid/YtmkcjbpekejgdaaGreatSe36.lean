/-
  Edges of polygons: both. No condition.
-/
import Derived.Test.YtmkcjbpekejgdaaGreatSe30
set_option linter.unusedSimpArgs false
set_option linter.unusedVariables false
noncomputable section
namespace Go.Aw
set_option maxRecDepth 100000
def edgeS (l : List (Int × Int)) (i : Nat) : Sg := (at2 l i, at2 l ((i + 1) % l.length))
def SEdge (l : List (Int × Int)) : List Value → Option (Bool × Value)
  | [.int .i64 j] => some (decide (0 ≤ j) && decide (j < l.length) && decide (l.length ≤ 1000000000), sgv (edgeS l j.toNat))
  | _ => none
theorem SEdge_inv {l : List (Int × Int)} {r : List Value} {v : Value} (hs : SEdge l r = some (true, v)) : ∃ (i : Nat) (j : Int), j = i ∧ r = [iv j] ∧ i < l.length ∧ l.length ≤ 1000000000 ∧ v = sgv (edgeS l i) := by
  unfold SEdge at hs
  split at hs
  · rename_i j
    injection hs with hs; injection hs with h1 h2
    simp only [Bool.and_eq_true, decide_eq_true_eq] at h1
    refine ⟨j.toNat, j, by omega, rfl, by omega, h1.2, h2.symm⟩
  · cases hs
theorem cA_rem (a b : Int) : cfgS.A.rem a b = a.tmod b := rfl
theorem tmod_nat {i n : Nat} : ((i : Int) + 1).tmod (n : Int) = ((i + 1) % n : Nat) := by
  rw [show (i : Int) + 1 = ((i + 1 : Nat) : Int) from rfl]
  exact (Int.ofNat_tmod (i + 1) n).symm
def X81 : Nat × XF := (57, lX elP SEdge)
theorem x81 : XOK Go.Proofs.Tryz.prog X81.1 X81.2 := lX_ok elP (body_calls (xl := []) .nil) fun l r v hs => by
  obtain ⟨i, j, hj, rfl, hlt, hlen, rfl⟩ := SEdge_inv hs
  refine ⟨rfl, rfl, fun c => ?_⟩
  have h0 : 0 < l.length := by omega
  have hm : (i + 1) % l.length < l.length := Nat.mod_lt _ h0
  have ht : (j + 1).tmod (l.length : Int) = ((i + 1) % l.length : Nat) := by rw [hj]; exact tmod_nat
  unfold edgeS
  ((conv => whnf); refine bm (fun g => ?_) (fun g => ?_))
  · (conv => whnf)
    refine boL (getP l hlt ?_) ?_
    · simp [cfgS, std]; omega
    ((conv => whnf); refine bm (fun g1 => ?_) (fun g1 => ?_))
    · ((conv => whnf); refine bm (fun g2 => ?_) (fun g2 => ?_))
      · ((conv => whnf); refine bm (fun g3 => ?_) (fun g3 => ?_))
        · (conv => whnf)
          refine boL (getP l hm ?_) ?_
          · show 0 + ((j + 1).tmod (l.length : Int)).toNat * 2 = _
            rw [ht, Int.toNat_natCast, Nat.zero_add]
          (conv => whnf)
          rfl
        · simp only [cA_rem, cA_lt, cA_le, cA_andB, cA_num, cA_add, Bool.eq_false_iff, ne_eq, Bool.and_eq_true, decide_eq_true_eq] at g3; omega
      · simp only [cA_notB, cA_eq, cA_num, Bool.not_eq_false', decide_eq_true_eq] at g2; omega
    · simp only [cA_add, cA_fits, fitsK, Bool.eq_false_iff, ne_eq, Bool.and_eq_true, decide_eq_true_eq] at g1; omega
  · simp only [cA_lt, cA_le, cA_andB, cA_num, Bool.eq_false_iff, ne_eq, Bool.and_eq_true, decide_eq_true_eq] at g; omega
def X84 : Nat × XF := (61, lX elP SEdge)
theorem x84 : XOK Go.Proofs.Tryz.prog X84.1 X84.2 := lX_ok elP (body_calls (xl := []) .nil) fun l r v hs => by
  obtain ⟨i, j, hj, rfl, hlt, hlen, rfl⟩ := SEdge_inv hs
  refine ⟨rfl, rfl, fun c => ?_⟩
  have h0 : 0 < l.length := by omega
  have hm : (i + 1) % l.length < l.length := Nat.mod_lt _ h0
  have ht : (j + 1).tmod (l.length : Int) = ((i + 1) % l.length : Nat) := by rw [hj]; exact tmod_nat
  unfold edgeS
  ((conv => whnf); refine bm (fun g => ?_) (fun g => ?_))
  · (conv => whnf)
    refine boL (getP l hlt ?_) ?_
    · simp [cfgS, std]; omega
    ((conv => whnf); refine bm (fun g1 => ?_) (fun g1 => ?_))
    · ((conv => whnf); refine bm (fun g2 => ?_) (fun g2 => ?_))
      · ((conv => whnf); refine bm (fun g3 => ?_) (fun g3 => ?_))
        · (conv => whnf)
          refine boL (getP l hm ?_) ?_
          · show 0 + ((j + 1).tmod (l.length : Int)).toNat * 2 = _
            rw [ht, Int.toNat_natCast, Nat.zero_add]
          (conv => whnf)
          rfl
        · simp only [cA_rem, cA_lt, cA_le, cA_andB, cA_num, cA_add, Bool.eq_false_iff, ne_eq, Bool.and_eq_true, decide_eq_true_eq] at g3; omega
      · simp only [cA_notB, cA_eq, cA_num, Bool.not_eq_false', decide_eq_true_eq] at g2; omega
    · simp only [cA_add, cA_fits, fitsK, Bool.eq_false_iff, ne_eq, Bool.and_eq_true, decide_eq_true_eq] at g1; omega
  · simp only [cA_lt, cA_le, cA_andB, cA_num, Bool.eq_false_iff, ne_eq, Bool.and_eq_true, decide_eq_true_eq] at g; omega
end Go.Aw
