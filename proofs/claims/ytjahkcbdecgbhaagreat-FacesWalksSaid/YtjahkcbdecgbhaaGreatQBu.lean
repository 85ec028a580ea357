/-
  Parts of the proof, put together. No condition.
-/
import Derived.Test.YtjahkcbdecgbhaaGreatQBt
set_option linter.unusedSimpArgs false
set_option linter.unusedVariables false
noncomputable section
namespace Go.Aw
def GK:CC:={ XZ with X:=DV UM W7 }
def xbD:Nat→Option (List Value→Heap→Nat→sR→Bool):=FC UM W7
theorem aGR:TwX GK xbD:=FN rfl
theorem aBy:pF Go.Proofs.Tryz.prog GK:=FY _ (CD EN SA) _ _
theorem ZF:cJ GK xbD 60 aE0:=by unfold cJ;decide +kernel
theorem aAc:cJ GK xbD 60 aE2:=by unfold cJ;decide +kernel
theorem XV:cJ GK xbD 60 aDQ:=by unfold cJ;decide +kernel
theorem YL:cJ GK xbD 60 aDK:=by unfold cJ;decide +kernel
theorem Y3:cJ GK xbD 60 aEn:=by unfold cJ;decide +kernel
theorem aAD:cJ GK xbD 60 aE9:=by unfold cJ;decide +kernel
theorem aA8:cJ GK xbD 60 aE5:=by unfold cJ;decide +kernel
def Q9:List nR:=[aE0,aE2,aDQ,aDK,aEn,aE9,aE5]
theorem W1:∀ E∈Q9,cJ GK xbD 60 E:=by
 intro E hE;simp only [Q9,List.mem_cons,List.not_mem_nil,or_false] at hE;rcases hE with rfl|rfl|rfl|rfl|rfl|rfl|rfl
 ·exact ZF
 ·exact aAc
 ·exact XV
 ·exact YL
 ·exact Y3
 ·exact aAD
 ·exact aA8
def X8:List nR:=Q9++UM
theorem RF:u7 Go.Proofs.Tryz.prog X8:=(CZ aBy aGR W1).app EN
end Go.Aw
end
