/-
  Parts of a proof. No condition.
-/
import Derived.Test.YtjahkcbdecgbhaaGreatQBm
set_option linter.unusedSimpArgs false
set_option linter.unusedVariables false
noncomputable section
namespace Go.Aw
def aAZ:CM:={ Z7 with X:=DO UO XZ }
def xbC:Nat→Option (List Value→Heap→Nat→tI→Bool):=E0 UO XZ
theorem aG8:TwX aAZ xbC:=E1 rfl
theorem aCk:pU Go.Proofs.Tryz.prog aAZ:=FY _ (DB D8 TX) _ _
theorem aAp:cM aAZ xbC 60 aF5:=by unfold cM;decide +kernel
theorem Z4:cM aAZ xbC 60 aEz:=by unfold cM;decide +kernel
def Q2:List n8:=[aF5,aEz]
theorem WE:∀ E∈Q2,cM aAZ xbC 60 E:=by
 intro E hE;simp only [Q2,List.mem_cons,List.not_mem_nil,or_false] at hE;rcases hE with rfl|rfl
 ·exact aAp
 ·exact Z4
def UM:List n8:=Q2++UO
theorem FW:vL Go.Proofs.Tryz.prog UM:=(DM aCk aG8 WE).app D8
end Go.Aw
end
