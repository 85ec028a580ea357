/-
  Parts of a proof. No condition.
-/
import Derived.Test.YthgjfhncomhofaaGreatQAt
set_option linter.unusedSimpArgs false
set_option linter.unusedVariables false
noncomputable section
namespace Go.Aw
open Proofs
def EP:EI:={ aDQ with X:=KW Z9 gsQ }
def xbB:Nat->Option (List Value->Heap->Nat->yM->Bool):=JW Z9 gsQ
theorem aMN:TwX EP xbB:=MR rfl
theorem aJY:o6 Tryz.prog EP:=KJ _ (IH MV aAd) _ _
theorem aHf:dL EP xbB 60 aKV:=by unfold dL;decide +kernel
theorem aEj:dL EP xbB 60 aL9:=by unfold dL;decide +kernel
theorem aF3:dL EP xbB 60 aL6:=by unfold dL;decide +kernel
theorem aFT:dL EP xbB 60 aKD:=by unfold dL;decide +kernel
theorem aGN:dL EP xbB 60 aKA:=by unfold dL;decide +kernel
theorem aEH:dL EP xbB 60 aKE:=by unfold dL;decide +kernel
theorem aEA:dL EP xbB 60 aKI:=by unfold dL;decide +kernel
theorem aFt:dL EP xbB 60 aKQ:=by unfold dL;decide +kernel
theorem aH5:dL EP xbB 60 aKj:=by unfold dL;decide +kernel
theorem aF1:dL EP xbB 60 aL7:=by unfold dL;decide +kernel
def Y0:List rF:=[aKV,aL9,aL6,aKD,aKA,aKE,aKI,aKQ,aKj,aL7]
theorem aCy:∀ E∈Y0,dL EP xbB 60 E:=by
 intro E hE;simp only[Y0,List.mem_cons,List.not_mem_nil,or_false]at hE;rcases hE with rfl|rfl|rfl|rfl|rfl|rfl|rfl|rfl|rfl|rfl
 ·exact aHf
 ·exact aEj
 ·exact aF3
 ·exact aFT
 ·exact aGN
 ·exact aEH
 ·exact aEA
 ·exact aFt
 ·exact aH5
 exact aF1
def aBM:List rF:=Y0++Z9
theorem MY:AD Tryz.prog aBM:=(IQ aJY aMN aCy).app MV
end Go.Aw
end
