/-
  Parts of a proof. No condition.
-/
import Derived.Test.YthgjfhncomhofaaGreatQAs
set_option linter.unusedSimpArgs false
set_option linter.unusedVariables false
noncomputable section
namespace Go.Aw
open Proofs
def aIs:EI:={ aDQ with X:=KW [] gsQ }
def xbA:Nat->Option (List Value->Heap->Nat->yM->Bool):=JW [] gsQ
theorem aNU:TwX aIs xbA:=MR rfl
theorem aHZ:o6 Tryz.prog aIs:=KJ _ aP0 _ _
theorem aFN:dL aIs xbA 60 aKt:=by unfold dL;decide +kernel
def YK:List rF:=[aKt]
theorem aCB:∀ E∈YK,dL aIs xbA 60 E:=by
 intro E hE;simp only[YK,List.mem_cons,List.not_mem_nil,or_false]at hE;subst hE;exact aFN
def Z9:List rF:=YK
theorem MV:AD Tryz.prog Z9:=IQ aHZ aNU aCB
end Go.Aw
end
