/-
  Parts of a proof. No condition.
-/
import Derived.Test.YtjahkcbdecgbhaaGreatQBk
set_option linter.unusedSimpArgs false
set_option linter.unusedVariables false
noncomputable section
namespace Go.Aw
def aEe:CM:={ Z7 with X:=DO [] XZ }
def xbA:Nat→Option (List Value→Heap→Nat→tI→Bool):=E0 [] XZ
theorem aFE:TwX aEe xbA:=E1 rfl
theorem aDz:pU Go.Proofs.Tryz.prog aEe:=FY _ aJt _ _
theorem aB7:cM aEe xbA 60 aFo:=by unfold cM;decide +kernel
def R3:List n8:=[aFo]
theorem WJ:∀ E∈R3,cM aEe xbA 60 E:=by
 intro E hE;simp only [R3,List.mem_cons,List.not_mem_nil,or_false] at hE;subst hE;exact aB7
def US:List n8:=R3
theorem EP:vL Go.Proofs.Tryz.prog US:=DM aDz aFE WJ
end Go.Aw
end
