/-
  Areas of lists, some of whose corners are left out. Plain. No condition.
-/
import Derived.Test.YtmkcjbpekejgdaaGreatSe70
set_option linter.unusedSimpArgs false
set_option linter.unusedVariables false
noncomputable section
namespace Go.Aw
def cr (a b : Int × Int) : Int := a.1 * b.2 - b.1 * a.2
def cyc (o : List (Int × Int)) (k : Nat) : Int × Int := at2 o (k % o.length)
theorem cyc_lt {o : List (Int × Int)} {k : Nat} (h : k < o.length) : cyc o k = at2 o k := by
  unfold cyc
  rw [Nat.mod_eq_of_lt h]
theorem cyc_add (o : List (Int × Int)) (k : Nat) : cyc o (k + o.length) = cyc o k := by
  unfold cyc
  rw [Nat.add_mod_right]
def sumC (o : List (Int × Int)) (f : Nat) : Nat → Int
  | 0 => 0
  | k + 1 => sumC o f k + cr (cyc o (f + k)) (cyc o (f + k + 1))
theorem sumC_head (o : List (Int × Int)) (f : Nat) : ∀ k, sumC o f (k + 1) = cr (cyc o f) (cyc o (f + 1)) + sumC o (f + 1) k
  | 0 => by simp [sumC]
  | k + 1 => by
    rw [sumC, sumC_head o f k, sumC]
    rw [show f + (k + 1) = f + 1 + k by omega]
    omega
theorem sumC_turn (o : List (Int × Int)) : ∀ f, sumC o f o.length = sumC o 0 o.length
  | 0 => rfl
  | f + 1 => by
    have h1 := sumC_head o f o.length
    have h2 : sumC o f (o.length + 1) = sumC o f o.length + cr (cyc o (f + o.length)) (cyc o (f + o.length + 1)) := rfl
    rw [cyc_add, show f + o.length + 1 = f + 1 + o.length by omega, cyc_add] at h2
    have h3 := sumC_turn o f
    omega
theorem areaI_sum {o : List (Int × Int)} : ∀ {k}, k ≤ o.length → areaI o k = sumC o 0 k
  | 0, _ => rfl
  | k + 1, h => by
    rw [areaI, sumC, areaI_sum (show k ≤ o.length by omega), Nat.zero_add, cyc_lt (show k < o.length by omega)]
    rfl
theorem turnI_at {o : List (Int × Int)} {j i : Nat} (hj : j < o.length) (hi : i < o.length) : at2 (turnI o j) i = cyc o (j + i) := by
  rw [at2_eq (by rw [turnI_len _ _ (by omega)]; exact hi)]
  unfold turnI
  by_cases h : i < o.length - j
  · rw [List.getElem_append_left (by rw [List.length_drop]; exact h), List.getElem_drop, cyc_lt (show j + i < o.length by omega), at2_eq]
  · rw [List.getElem_append_right (by rw [List.length_drop]; omega), List.getElem_take]
    have e : j + i = (j + i - o.length) + o.length := by omega
    rw [e, cyc_add, cyc_lt (by omega), at2_eq (by omega)]
    congr 1
    rw [List.length_drop]
    omega
theorem turnI_cyc {o : List (Int × Int)} {j : Nat} (hj : j < o.length) (i : Nat) : cyc (turnI o j) i = cyc o (j + i) := by
  have hl := turnI_len o j (by omega)
  have h0 : 0 < o.length := by omega
  have hm : i % o.length < o.length := Nat.mod_lt _ h0
  have e : cyc (turnI o j) i = at2 (turnI o j) (i % o.length) := by unfold cyc; rw [hl]
  rw [e, turnI_at hj hm]
  unfold cyc
  congr 1
  rw [Nat.add_mod, Nat.mod_mod, ← Nat.add_mod]
theorem sumC_turnI {o : List (Int × Int)} {j : Nat} (hj : j < o.length) (f : Nat) : ∀ k, sumC (turnI o j) f k = sumC o (j + f) k
  | 0 => rfl
  | k + 1 => by
    rw [sumC, sumC, sumC_turnI hj f k, turnI_cyc hj, turnI_cyc hj]
    rw [show j + (f + k) = j + f + k by omega, show j + (f + k + 1) = j + f + k + 1 by omega]
theorem area_turn {o : List (Int × Int)} {j : Nat} (hj : j < o.length) : areaI (turnI o j) (turnI o j).length = areaI o o.length := by
  rw [areaI_sum (Nat.le_refl _), areaI_sum (Nat.le_refl _), turnI_len _ _ (by omega), sumC_turnI hj, sumC_turn]
/-! ### chains -/
def paI (R : List (Int × Int)) : Nat → Int
  | 0 => 0
  | m + 1 => paI R m + cr (at2 R m) (at2 R (m + 1))
theorem at2_app {R : List (Int × Int)} {q : Int × Int} {i : Nat} (h : i < R.length) : at2 (R ++ [q]) i = at2 R i := by
  rw [at2_eq (by rw [List.length_append]; omega), at2_eq h, List.getElem_append_left h]
theorem at2_end (R : List (Int × Int)) (q : Int × Int) : at2 (R ++ [q]) R.length = q := by
  rw [at2_eq (by rw [List.length_append]; exact Nat.lt_succ_self _), List.getElem_append_right (Nat.le_refl _)]
  simp
theorem paI_app {R : List (Int × Int)} {q : Int × Int} : ∀ {m}, m < R.length → paI (R ++ [q]) m = paI R m
  | 0, _ => rfl
  | m + 1, h => by
    rw [paI, paI, paI_app (show m < R.length by omega), at2_app (show m < R.length by omega), at2_app h]
theorem areaI_pa {R : List (Int × Int)} : ∀ {m}, m < R.length → areaI R m = paI R m
  | 0, _ => rfl
  | m + 1, h => by
    rw [areaI, paI, areaI_pa (show m < R.length by omega)]
    unfold nxt
    rw [Nat.mod_eq_of_lt h]
    rfl
theorem areaI_close {R : List (Int × Int)} (h : 0 < R.length) : areaI R R.length = paI R (R.length - 1) + cr (at2 R (R.length - 1)) (at2 R 0) := by
  obtain ⟨m, hm⟩ : ∃ m, R.length = m + 1 := ⟨R.length - 1, by omega⟩
  have e : areaI R (m + 1) = areaI R m + cr (at2 R m) (nxt R m) := rfl
  rw [hm, e, areaI_pa (show m < R.length by omega)]
  unfold nxt
  rw [hm, Nat.mod_self]
  rfl
end Go.Aw
