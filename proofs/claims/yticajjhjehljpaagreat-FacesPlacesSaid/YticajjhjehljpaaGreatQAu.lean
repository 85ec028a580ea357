/-
  Parts of a proof. No condition.
-/
import Derived.Test.YticajjhjehljpaaGreatQAt
set_option linter.unusedSimpArgs false
set_option linter.unusedVariables false
noncomputable section
namespace Go.Aw
def aDx:EP:={ aDu with X:=GM aAg gsQ }
def xbC:Nat→Option (List Value→Heap→Nat→uJ→Bool):=IQ aAg gsQ
theorem aLm:TwX aDx xbC:=IZ rfl
theorem aGw:qH Go.Proofs.Tryz.prog aDx:=IT _ (FP HV YV) _ _
theorem aD5:dF aDx xbC 60 aJl:=by unfold dF;decide +kernel
theorem aD3:dF aDx xbC 60 aJa:=by unfold dF;decide +kernel
def V3:List pM:=[aJl,aJa]
theorem aBq:∀ E∈V3,dF aDx xbC 60 E:=by
 intro E hE;simp only [V3,List.mem_cons,List.not_mem_nil,or_false] at hE;rcases hE with rfl|rfl
 ·exact aD5
 exact aD3
def Y0:List pM:=V3++aAg
theorem GJ:xW Go.Proofs.Tryz.prog Y0:=(GA aGw aLm aBq).app HV
end Go.Aw
end
