/-
  Parts of a proof. No condition.
-/
import Derived.Test.YthgjfhncomhofaaGreatQAv
set_option linter.unusedSimpArgs false
set_option linter.unusedVariables false
noncomputable section
namespace Go.Aw
open Proofs
def NU:EI:={ aDQ with X:=KW aBB gsQ }
def xbD:Nat->Option (List Value->Heap->Nat->yM->Bool):=JW aBB gsQ
theorem aNu:TwX NU xbD:=MR rfl
theorem aHp:o6 Tryz.prog NU:=KJ _ (IH LH aAd) _ _
theorem aEP:dL NU xbD 60 aKr:=by unfold dL;decide +kernel
theorem aE3:dL NU xbD 60 aKg:=by unfold dL;decide +kernel
theorem aET:dL NU xbD 60 aL8:=by unfold dL;decide +kernel
theorem aEm:dL NU xbD 60 aKW:=by unfold dL;decide +kernel
theorem aF2:dL NU xbD 60 aKH:=by unfold dL;decide +kernel
theorem aFS:dL NU xbD 60 aKu:=by unfold dL;decide +kernel
theorem aE9:dL NU xbD 60 aKB:=by unfold dL;decide +kernel
def XY:List rF:=[aKr,aKg,aL8,aKW,aKH,aKu,aKB]
theorem aCj:∀ E∈XY,dL NU xbD 60 E:=by
 intro E hE;simp only[XY,List.mem_cons,List.not_mem_nil,or_false]at hE;rcases hE with rfl|rfl|rfl|rfl|rfl|rfl|rfl
 ·exact aEP
 ·exact aE3
 ·exact aET
 ·exact aEm
 ·exact aF2
 ·exact aFS
 exact aE9
def aEb:List rF:=XY++aBB
theorem XR:AD Tryz.prog aEb:=(IQ aHp aNu aCj).app LH
end Go.Aw
end
