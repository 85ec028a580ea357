/-
  Fractions: both. No condition.
-/
import Derived.Test.YtmkcjbpekejgdaaGreatSe47
set_option linter.unusedSimpArgs false
set_option linter.unusedVariables false
noncomputable section
namespace Go.Aw
set_option maxRecDepth 100000
def nnV (n d : Int) : Int := if d < 0 then 0 - n else n
def ddV (d : Int) : Int := if d < 0 then 0 - d else d
def quoG (a b : Int) : Int := a.tdiv b
def ratV (n d : Int) : Int × Int := (quoG (nnV n d) (gcdV (nnV n d) (ddV d)), quoG (ddV d) (gcdV (nnV n d) (ddV d)))
theorem cA_quo (a b : Int) : cfgS.A.quo a b = quoG a b := rfl
theorem quo_small {a b A : Int} (h1 : -A ≤ a) (h2 : a ≤ A) : -A ≤ quoG a b ∧ quoG a b ≤ A := by
  have h : (a.tdiv b).natAbs = a.natAbs / b.natAbs := Int.natAbs_tdiv a b
  have h3 := Nat.div_le_self a.natAbs b.natAbs
  unfold quoG
  rw [← h] at h3
  omega
theorem gcd_ne {n d : Int} (h : d ≠ 0) : gcdV n d ≠ 0 := by
  unfold gcdV
  intro h2
  have h3 : Int.gcd n d = 0 := by omega
  exact h (Int.gcd_eq_zero_iff.1 h3).2
theorem gcd_abs (n d : Int) : gcdV (mx n (0 - n)) d = gcdV n d := by
  unfold gcdV Int.gcd
  congr 2
  unfold mx
  split <;> omega
theorem dd_pos {d : Int} (h : d ≠ 0) : 0 < ddV d := by
  unfold ddV
  split <;> omega
def ratOK (n d : Int) : Bool := bigI n && bigI d && decide (d ≠ 0)
def X69 : Nat × XF := (124, gX (s2 cI cI fun n d => (ratOK n d, ptv (ratV n d))))
attribute [local irreducible] gcdV quoG in
theorem x69 : XOK Go.Proofs.Tryz.prog X69.1 X69.2 := x2 cI cI (xl := [X121]) (.cons x121 .nil) (fun _ _ => rfl) fun n d hp => by
  simp only [ratOK, bigI, Bool.and_eq_true, decide_eq_true_eq] at hp
  obtain ⟨⟨hn, hd⟩, h0⟩ := hp
  have hg := gcd_ne (n := nnV n d) (d := ddV d) (by have := dd_pos h0; omega)
  have hnb : -1000000000000000 ≤ nnV n d ∧ nnV n d ≤ 1000000000000000 := by unfold nnV; split <;> omega
  have hdb : -1000000000000000 ≤ ddV d ∧ ddV d ≤ 1000000000000000 := by unfold ddV; split <;> omega
  have q1 := quo_small (b := gcdV (nnV n d) (ddV d)) hnb.1 hnb.2
  have q2 := quo_small (b := gcdV (nnV n d) (ddV d)) hdb.1 hdb.2
  unfold Does1
  repeat' ((conv => whnf); refine bm (fun g => ?_) (fun g => ?_))
  all_goals (conv => whnf)
  all_goals (by_cases hd0 : d < 0)
  all_goals (simp only [nnV, ddV, hd0, if_true, if_false] at hg hnb hdb q1 q2)
  all_goals (simp only [gcd_abs, cA_lt, cA_eq, cA_neg, cA_sub, cA_quo, cA_max, cA_notB, cA_andB, cA_fits] at *)
  all_goals (simp only [fitsK, bigI, posI, Bool.and_eq_true, Bool.not_eq_true', decide_eq_true_eq, decide_eq_false_iff_not] at *)
  all_goals first
    | (exfalso; omega)
    | (simp only [ratV, nnV, ddV, hd0, if_true, if_false]; rfl)
    | (exfalso; simp only [Bool.and_eq_false_iff, Bool.not_eq_false', decide_eq_false_iff_not, decide_eq_true_eq] at *; omega)
    | trace_state
end Go.Aw
