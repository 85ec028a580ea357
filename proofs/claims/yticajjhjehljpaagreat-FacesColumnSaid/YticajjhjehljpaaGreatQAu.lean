/-
  Parts of a proof. No condition.
-/
import Derived.Test.YticajjhjehljpaaGreatQAt
set_option linter.unusedSimpArgs false
set_option linter.unusedVariables false
noncomputable section
namespace Go.Aw
def IZ:DC:={ aDx with X:=EV U5 ZU }
def xbD:Nat→Option (List Value→Heap→Nat→uH→Bool):=E6 U5 ZU
theorem aIN:TwX IZ xbD:=GQ rfl
theorem aF6:pA Go.Proofs.Tryz.prog IZ:=GH _ (D7 HU WV) _ _
theorem aDb:cT IZ xbD 60 aHG:=by unfold cT;decide +kernel
theorem aCZ:cT IZ xbD 60 aGO:=by unfold cT;decide +kernel
theorem aBU:cT IZ xbD 60 aHm:=by unfold cT;decide +kernel
theorem aD0:cT IZ xbD 60 aGT:=by unfold cT;decide +kernel
theorem aDw:cT IZ xbD 60 aGY:=by unfold cT;decide +kernel
theorem aAD:cT IZ xbD 60 aGD:=by unfold cT;decide +kernel
theorem aBL:cT IZ xbD 60 aHE:=by unfold cT;decide +kernel
def R5:List oJ:=[aHG,aGO,aHm,aGT,aGY,aGD,aHE]
theorem aA1:∀ E∈R5,cT IZ xbD 60 E:=by
 intro E hE;simp only [R5,List.mem_cons,List.not_mem_nil,or_false] at hE;rcases hE with rfl|rfl|rfl|rfl|rfl|rfl|rfl
 ·exact aDb
 ·exact aCZ
 ·exact aBU
 ·exact aD0
 ·exact aDw
 ·exact aAD
 exact aBL
def aB3:List oJ:=R5++U5
theorem SV:vX Go.Proofs.Tryz.prog aB3:=(DO aF6 aIN aA1).app HU
end Go.Aw
end
