/-
  Small laws for pieces of segments. No condition.
-/
import Derived.Test.YtmkcjbpekejgdaaGreatSe121
set_option linter.unusedSimpArgs false
set_option linter.unusedVariables false
noncomputable section
namespace Go.Aw
def Y39 : Nat × XF := (39, rfX elS elS S39)
theorem eqPJ (a s : Int × Int) : cfgS.A.andB (cfgS.A.eq a.1 s.1) (cfgS.A.andB (cfgS.A.eq a.2 s.2) true) = eqP a s := by
  unfold eqP
  simp only [cA_eq, cA_andB, Bool.and_true]
theorem splO_le (l : List Sg) : (splO l).length ≤ l.length * (1 + 2 * l.length) := by
  unfold splO
  split
  · have h1 := ddG_len (sortG (outS l l.length)) (sortG (outS l l.length)).length
    have h2 := outS_len l l.length
    rw [sortG_len] at h1
    unfold dedG
    rw [sortG_len]
    omega
  · exact Nat.zero_le _
end Go.Aw
