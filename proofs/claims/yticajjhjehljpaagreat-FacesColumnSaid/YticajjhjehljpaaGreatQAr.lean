/-
  Parts of a proof. No condition.
-/
import Derived.Test.YticajjhjehljpaaGreatQAq
set_option linter.unusedSimpArgs false
set_option linter.unusedVariables false
noncomputable section
namespace Go.Aw
def aFv:DC:={ aDx with X:=EV [] ZU }
def xbA:Nat→Option (List Value→Heap→Nat→uH→Bool):=E6 [] ZU
theorem aIZ:TwX aFv xbA:=GQ rfl
theorem aEP:pA Go.Proofs.Tryz.prog aFv:=GH _ aLQ _ _
theorem aBX:cT aFv xbA 60 aHK:=by unfold cT;decide +kernel
def UI:List oJ:=[aHK]
theorem aAo:∀ E∈UI,cT aFv xbA 60 E:=by
 intro E hE;simp only [UI,List.mem_cons,List.not_mem_nil,or_false] at hE;subst hE;exact aBX
def VT:List oJ:=UI
theorem E2:vX Go.Proofs.Tryz.prog VT:=DO aEP aIZ aAo
end Go.Aw
end
