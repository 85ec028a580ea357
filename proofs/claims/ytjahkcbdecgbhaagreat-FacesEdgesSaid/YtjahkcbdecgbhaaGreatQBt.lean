/-
  Parts of the proof, put together. No condition.
-/
import Derived.Test.YtjahkcbdecgbhaaGreatQBs
set_option linter.unusedSimpArgs false
set_option linter.unusedVariables false
noncomputable section
namespace Go.Aw
def YH:ET:={ aAX with X:=FZ UN W2 }
def xbC:Nat→Option (List Value→Heap→Nat→sH→Bool):=DM UN W2
theorem aFp:TwX YH xbC:=DR rfl
theorem aDl:rP Go.Proofs.Tryz.prog YH:=E1 _ (C9 EK S2) _ _
theorem ZM:cL YH xbC 60 aEn:=by unfold cL;decide +kernel
theorem aBh:cL YH xbC 60 aEG:=by unfold cL;decide +kernel
def PO:List oB:=[aEn,aEG]
theorem WB:∀ E∈PO,cL YH xbC 60 E:=by
 intro E hE;simp only [PO,List.mem_cons,List.not_mem_nil,or_false] at hE;rcases hE with rfl|rfl
 ·exact ZM
 ·exact aBh
def SX:List oB:=PO++UN
theorem EF:vS Go.Proofs.Tryz.prog SX:=(DK aDl aFp WB).app EK
end Go.Aw
end
