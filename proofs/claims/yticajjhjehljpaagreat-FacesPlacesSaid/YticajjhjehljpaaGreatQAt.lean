/-
  Parts of a proof. No condition.
-/
import Derived.Test.YticajjhjehljpaaGreatQAs
set_option linter.unusedSimpArgs false
set_option linter.unusedVariables false
noncomputable section
namespace Go.Aw
def CZ:EP:={ aDu with X:=GM YX gsQ }
def xbB:Nat→Option (List Value→Heap→Nat→uJ→Bool):=IQ YX gsQ
theorem aLq:TwX CZ xbB:=IZ rfl
theorem aGy:qH Go.Proofs.Tryz.prog CZ:=IT _ (FP IP YV) _ _
theorem aE5:dF CZ xbB 60 aIT:=by unfold dF;decide +kernel
theorem aCE:dF CZ xbB 60 aJ6:=by unfold dF;decide +kernel
theorem aCJ:dF CZ xbB 60 aIX:=by unfold dF;decide +kernel
theorem aFv:dF CZ xbB 60 aJ9:=by unfold dF;decide +kernel
theorem aEB:dF CZ xbB 60 aJq:=by unfold dF;decide +kernel
theorem aCn:dF CZ xbB 60 aIB:=by unfold dF;decide +kernel
theorem aEh:dF CZ xbB 60 aIK:=by unfold dF;decide +kernel
theorem aCu:dF CZ xbB 60 aJg:=by unfold dF;decide +kernel
theorem aCi:dF CZ xbB 60 aJ5:=by unfold dF;decide +kernel
theorem aEp:dF CZ xbB 60 aJx:=by unfold dF;decide +kernel
def VS:List pM:=[aIT,aJ6,aIX,aJ9,aJq,aIB,aIK,aJg,aJ5,aJx]
theorem aBD:∀ E∈VS,dF CZ xbB 60 E:=by
 intro E hE;simp only [VS,List.mem_cons,List.not_mem_nil,or_false] at hE;rcases hE with rfl|rfl|rfl|rfl|rfl|rfl|rfl|rfl|rfl|rfl
 ·exact aE5
 ·exact aCE
 ·exact aCJ
 ·exact aFv
 ·exact aEB
 ·exact aCn
 ·exact aEh
 ·exact aCu
 ·exact aCi
 exact aEp
def aAg:List pM:=VS++YX
theorem HV:xW Go.Proofs.Tryz.prog aAg:=(GA aGy aLq aBD).app IP
end Go.Aw
end
