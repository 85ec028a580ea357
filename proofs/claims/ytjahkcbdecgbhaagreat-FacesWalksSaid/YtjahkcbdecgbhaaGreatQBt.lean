/-
  Parts of the proof, put together. No condition.
-/
import Derived.Test.YtjahkcbdecgbhaaGreatQBs
set_option linter.unusedSimpArgs false
set_option linter.unusedVariables false
noncomputable section
namespace Go.Aw
def ZD:CC:={ XZ with X:=DV T4 W7 }
def xbC:Nat→Option (List Value→Heap→Nat→sR→Bool):=FC T4 W7
theorem aG7:TwX ZD xbC:=FN rfl
theorem aC5:pF Go.Proofs.Tryz.prog ZD:=FY _ (CD D9 SA) _ _
theorem aB1:cJ ZD xbC 60 aE1:=by unfold cJ;decide +kernel
theorem X0:cJ ZD xbC 60 aE8:=by unfold cJ;decide +kernel
def RG:List nR:=[aE1,aE8]
theorem WH:∀ E∈RG,cJ ZD xbC 60 E:=by
 intro E hE;simp only [RG,List.mem_cons,List.not_mem_nil,or_false] at hE;rcases hE with rfl|rfl
 ·exact aB1
 ·exact X0
def UM:List nR:=RG++T4
theorem EN:u7 Go.Proofs.Tryz.prog UM:=(CZ aC5 aG7 WH).app D9
end Go.Aw
end
