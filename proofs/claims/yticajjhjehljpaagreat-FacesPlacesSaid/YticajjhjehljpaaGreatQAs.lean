/-
  Parts of a proof. No condition.
-/
import Derived.Test.YticajjhjehljpaaGreatQAr
set_option linter.unusedSimpArgs false
set_option linter.unusedVariables false
noncomputable section
namespace Go.Aw
def aHo:EP:={ aDu with X:=GM [] gsQ }
def xbA:Nat→Option (List Value→Heap→Nat→uJ→Bool):=IQ [] gsQ
theorem aLW:TwX aHo xbA:=IZ rfl
theorem aHR:qH Go.Proofs.Tryz.prog aHo:=IT _ aNB _ _
theorem aF5:dF aHo xbA 60 aIF:=by unfold dF;decide +kernel
def VB:List pM:=[aIF]
theorem aBt:∀ E∈VB,dF aHo xbA 60 E:=by
 intro E hE;simp only [VB,List.mem_cons,List.not_mem_nil,or_false] at hE;subst hE;exact aF5
def YX:List pM:=VB
theorem IP:xW Go.Proofs.Tryz.prog YX:=GA aHR aLW aBt
end Go.Aw
end
