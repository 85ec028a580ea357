/-
  PlaneTurns: its body. No condition.
-/
import Derived.Test.YtagdfcdnfdpocaaGreatSe7
set_option linter.unusedSimpArgs false
set_option linter.unusedVariables false
noncomputable section
namespace Go.Aw
set_option maxRecDepth 100000
def s0 (v : Value) : List Value → Option (Bool × Value)
  | [] => some (true, v)
  | _ => none
def X19 : Nat × XF := (19, gX (s0 (.bool true)))
/-- How a turn turns with its points. -/
theorem cross_cyc (a b c : Int × Int) : crossI b c a = crossI a b c := by
  simp only [crossI, Int.sub_mul, Int.mul_sub]
  have h1 := Int.mul_comm a.1 b.2
  have h2 := Int.mul_comm a.2 b.1
  have h3 := Int.mul_comm a.1 c.2
  have h4 := Int.mul_comm a.2 c.1
  have h5 := Int.mul_comm b.1 c.2
  have h6 := Int.mul_comm b.2 c.1
  have h7 := Int.mul_comm a.1 a.2
  have h8 := Int.mul_comm b.1 b.2
  omega
theorem cross_swap (a b c : Int × Int) : crossI b a c = - crossI a b c := by
  simp only [crossI, Int.sub_mul, Int.mul_sub]
  have h1 := Int.mul_comm a.1 b.2
  have h2 := Int.mul_comm a.2 b.1
  have h3 := Int.mul_comm a.1 c.2
  have h4 := Int.mul_comm a.2 c.1
  have h5 := Int.mul_comm b.1 c.2
  have h6 := Int.mul_comm b.2 c.1
  have h7 := Int.mul_comm a.1 a.2
  have h8 := Int.mul_comm b.1 b.2
  omega
theorem turn_cyc (a b c : Int × Int) : turnS b c a = turnS a b c := by unfold turnS; rw [cross_cyc]
theorem turn_swap (a b c : Int × Int) : turnS b a c = - turnS a b c := by
  unfold turnS
  rw [cross_swap]
  unfold sgn
  split <;> split <;> (try split) <;> (try split) <;> omega
theorem turn_low (a b c : Int × Int) : -1 ≤ turnS a b c ∧ turnS a b c ≤ 1 := by
  unfold turnS sgn
  split <;> (try split) <;> omega
theorem tS_cyc (a b c : Int × Int) : tS b c a = tS a b c := by
  unfold tS
  rw [turn_cyc]
  cases rightS a <;> cases rightS b <;> cases rightS c <;> rfl
theorem tS_swap (a b c : Int × Int) : tS b a c = - tS a b c := by
  unfold tS
  rw [turn_swap]
  cases rightS a <;> cases rightS b <;> cases rightS c <;> simp
theorem tS_low (a b c : Int × Int) : -1 ≤ tS a b c ∧ tS a b c ≤ 1 := by
  unfold tS
  have := turn_low a b c
  split <;> omega
theorem law3 (h19 : XOK Go.Proofs.Tryz.prog X19.1 X19.2) (a b c : Int × Int) : Does1 [X15, X16, X17, X18, X19] 3 [ptv a, ptv b, ptv c] (.bool true) := by
  have e1 := tS_cyc a b c
  have e2 := tS_swap a b c
  have e3 := tS_low a b c
  obtain ⟨ax, ay⟩ := a
  obtain ⟨bx, «by»⟩ := b
  obtain ⟨cx, cy⟩ := c
  unfold Does1
  repeat' (conv => whnf
           refine bm (fun h => ?_) (fun h => ?_))
  all_goals (conv => whnf)
  all_goals (simp only [cfgS, std, iv, fitsK, ptv] at *; simp at *)
  all_goals first | omega | (simp_all; done)
end Go.Aw
