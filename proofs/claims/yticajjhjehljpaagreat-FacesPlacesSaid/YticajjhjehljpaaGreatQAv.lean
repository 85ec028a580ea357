/-
  Parts of a proof. No condition.
-/
import Derived.Test.YticajjhjehljpaaGreatQAu
set_option linter.unusedSimpArgs false
set_option linter.unusedVariables false
noncomputable section
namespace Go.Aw
def J8:EP:={ aDu with X:=GM Y0 gsQ }
def xbD:Nat→Option (List Value→Heap→Nat→uJ→Bool):=IQ Y0 gsQ
theorem aJP:TwX J8 xbD:=IZ rfl
theorem aFT:qH Go.Proofs.Tryz.prog J8:=IT _ (FP GJ YV) _ _
theorem aDC:dF J8 xbD 60 aIE:=by unfold dF;decide +kernel
theorem aDm:dF J8 xbD 60 aIN:=by unfold dF;decide +kernel
theorem aED:dF J8 xbD 60 aJd:=by unfold dF;decide +kernel
theorem aCt:dF J8 xbD 60 aJk:=by unfold dF;decide +kernel
theorem aDf:dF J8 xbD 60 aIQ:=by unfold dF;decide +kernel
theorem aDS:dF J8 xbD 60 aJo:=by unfold dF;decide +kernel
theorem aCs:dF J8 xbD 60 aIP:=by unfold dF;decide +kernel
def T4:List pM:=[aIE,aIN,aJd,aJk,aIQ,aJo,aIP]
theorem aBK:∀ E∈T4,dF J8 xbD 60 E:=by
 intro E hE;simp only [T4,List.mem_cons,List.not_mem_nil,or_false] at hE;rcases hE with rfl|rfl|rfl|rfl|rfl|rfl|rfl
 ·exact aDC
 ·exact aDm
 ·exact aED
 ·exact aCt
 ·exact aDf
 ·exact aDS
 exact aCs
def aCv:List pM:=T4++Y0
theorem VI:xW Go.Proofs.Tryz.prog aCv:=(GA aFT aJP aBK).app GJ
end Go.Aw
end
