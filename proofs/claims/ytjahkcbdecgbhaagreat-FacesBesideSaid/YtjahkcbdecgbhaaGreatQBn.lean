/-
  Parts of a proof. No condition.
-/
import Derived.Test.YtjahkcbdecgbhaaGreatQBm
set_option linter.unusedSimpArgs false
set_option linter.unusedVariables false
noncomputable section
namespace Go.Aw
def aD5:C0:={ aCF with X:=GY WS Z7 }
def xbC:Nat→Option (List Value→Heap→Nat→sX→Bool):=GO WS Z7
theorem aJa:TwX aD5 xbC:=FL rfl
theorem aFG:o7 Go.Proofs.Tryz.prog aD5:=GR _ (DZ F3 WK) _ _
theorem aCG:cT aD5 xbC 60 aG3:=by unfold cT;decide +kernel
theorem aCR:cT aD5 xbC 60 aGu:=by unfold cT;decide +kernel
def RV:List oF:=[aG3,aGu]
theorem Y4:∀ E∈RV,cT aD5 xbC 60 E:=by
 intro E hE;simp only [RV,List.mem_cons,List.not_mem_nil,or_false] at hE;rcases hE with rfl|rfl
 ·exact aCG
 ·exact aCR
def XO:List oF:=RV++WS
theorem GF:wV Go.Proofs.Tryz.prog XO:=(D8 aFG aJa Y4).app F3
end Go.Aw
end
