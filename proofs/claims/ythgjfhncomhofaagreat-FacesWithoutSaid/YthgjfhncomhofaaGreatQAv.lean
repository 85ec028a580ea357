/-
  Parts of a proof. No condition.
-/
import Derived.Test.YthgjfhncomhofaaGreatQAu
set_option linter.unusedSimpArgs false
set_option linter.unusedVariables false
noncomputable section
namespace Go.Aw
open Proofs
def aFg:EI:={ aDQ with X:=KW aBM gsQ }
def xbC:Nat->Option (List Value->Heap->Nat->yM->Bool):=JW aBM gsQ
theorem aMt:TwX aFg xbC:=MR rfl
theorem aJL:o6 Tryz.prog aFg:=KJ _ (IH MY aAd) _ _
theorem aEM:dL aFg xbC 60 aLf:=by unfold dL;decide +kernel
theorem aEh:dL aFg xbC 60 aKS:=by unfold dL;decide +kernel
def ZT:List rF:=[aLf,aKS]
theorem aCT:∀ E∈ZT,dL aFg xbC 60 E:=by
 intro E hE;simp only[ZT,List.mem_cons,List.not_mem_nil,or_false]at hE;rcases hE with rfl|rfl
 ·exact aEM
 exact aEh
def aBB:List rF:=ZT++aBM
theorem LH:AD Tryz.prog aBB:=(IQ aJL aMt aCT).app MY
end Go.Aw
end
